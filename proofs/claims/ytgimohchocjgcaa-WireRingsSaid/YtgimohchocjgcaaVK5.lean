import Derived.Test.YtgimohchocjgcaaVWA0
import Derived.Test.YtgimohchocjgcaaVME
set_option linter.unusedVariables false
set_option linter.unusedSimpArgs false
namespace Go.Proofs.Ytgimohchocjgcaa.V
section
def zpF (N : Nat) (A_2 : (List Row) -> Int -> Int -> Option (Bool × Unit)) (A_5 : (List Row) -> Int -> Int -> (List Fr) -> Int -> Option (Bool × Unit)) (t8 : List Row) (t9 t10 : Int) (t15 : List Fr) (t16 : Int) : Option (Bool × Unit) :=
  cond (hide (ltI t16 (8 : Int))) (must (leI (0 : Int) t16 && (ltI t16 (↑(8 : Nat) : Int) && ltI t16 (↑t15.length : Int))) (Option.bind (p79 N ((List.getD t15 t16.toNat (Fr.zero)))) fun r0 => cond (hide !r0.1) (some ((false, ()))) (A_5 t8 t9 t10 t15 (hide (wr (t16 + (1 : Int))))))) (A_2 t8 t9 (hide (wr (t10 + (1 : Int)))))
def zpG (N : Nat) (A_2 : (List Row) -> Int -> Int -> Option (Bool × Unit)) (n : Nat) (t8 : List Row) (t9 t10 : Int) (t15 : List Fr) (t16 : Int) : Option (Bool × Unit) :=
  zao (fun A x => zpF N A_2 (fun t8 t9 t10 t15 t16 => A ((t8, (t9, (t10, (t15, (t16, ()))))), ())) x.1.1 x.1.2.1 x.1.2.2.1 x.1.2.2.2.1 x.1.2.2.2.2.1) n ((t8, (t9, (t10, (t15, (t16, ()))))), ())
def zpH (N : Nat) (A_2 : (List Row) -> Int -> Int -> Option (Bool × Unit)) (t8 : List Row) (t9 t10 : Int) : Option (Bool × Unit) :=
  let u1 := List.getD t8 t10.toNat zrow
  let u2 := Row.q0 u1
  let u3 := Row.q1 u1
  let u4 := Row.q2 u1
  let u5 := Row.q3 u1
  let u6 := Row.q4 u1
  let u7 := Row.q5 u1
  let u8 := Row.q6 u1
  let u9 := Row.q7 u1
  cond (hide (ltI t10 t9)) (must (leI (0 : Int) t10 && ltI t10 (↑t8.length : Int)) (zpG N A_2 N t8 t9 t10 ([Fr.mk (Fr.a0 u2) (Fr.a1 u2) (Fr.a2 u2) (Fr.a3 u2), Fr.mk (Fr.a0 u3) (Fr.a1 u3) (Fr.a2 u3) (Fr.a3 u3), Fr.mk (Fr.a0 u4) (Fr.a1 u4) (Fr.a2 u4) (Fr.a3 u4), Fr.mk (Fr.a0 u5) (Fr.a1 u5) (Fr.a2 u5) (Fr.a3 u5), Fr.mk (Fr.a0 u6) (Fr.a1 u6) (Fr.a2 u6) (Fr.a3 u6), Fr.mk (Fr.a0 u7) (Fr.a1 u7) (Fr.a2 u7) (Fr.a3 u7), Fr.mk (Fr.a0 u8) (Fr.a1 u8) (Fr.a2 u8) (Fr.a3 u8), Fr.mk (Fr.a0 u9) (Fr.a1 u9) (Fr.a2 u9) (Fr.a3 u9)]) (0 : Int))) (some ((true, ())))
def zpI (N n : Nat) (t8 : List Row) (t9 t10 : Int) : Option (Bool × Unit) :=
  zao (fun A x => zpH N (fun t8 t9 t10 => A ((t8, (t9, (t10, ()))), ())) x.1.1 x.1.2.1 x.1.2.2.1) n ((t8, (t9, (t10, ()))), ())
def p200 (N : Nat) (c0 v1 : Int) (v2 : List Row) (v3 : List Pr) : Option (Bool × Unit) :=
  zpI N N v2 ((↑v2.length : Int)) (0 : Int)
def g200 (N : Nat) : Sg := sgK [(K.agg [.int, .int, .ro .row, .ro .pair] rfl)] [K.bool] fun x => p200 N x.1.1 x.1.2.1 x.1.2.2.1 x.1.2.2.2.1
def zxI : List (Nat × Head) := [
    (2, ⟨⟨24, [(8, .u (.c (.ro .row))), (9, .u (.c (.int))), (10, .u (.c (.int)))], []⟩, .exit 0⟩),
    (5, ⟨⟨24, [(8, .u (.c (.ro .row))), (9, .u (.c (.int))), (10, .u (.c (.int))), (15, .u (.vec .fr)), (16, .u (.c (.int)))], []⟩, .exit 2⟩)]
def zxJ (N : Nat) : List (Nat × Sg) := [(79, g79 N)]
theorem zpJ (N : Nat) : zaS Try.prog pd.els (zxJ N) := ⟨zxg N, trivial⟩
theorem zvo (N : Nat) : SgOK Try.prog pd.els 200 (g200 N) :=
  zaE zaU (zai (zpJ N)) Try.func200 (zat (by kernel_rfl)) [(K.agg [.int, .int, .ro .row, .ro .pair] rfl)] [K.bool] _ N zxI 4 fun x => by kernel_rfl
def zk9 (N : Nat) (A_12 : (List Pr) -> Int -> Int -> Int -> Int -> (List Row) -> (List Pr) -> Option (Bool × Unit)) (t28 : List Pr) (t29 t30 ob0_0 ob0_1 : Int) (ob0_2 : List Row) (ob0_3 : List Pr) : Option (Bool × Unit) :=
  cond (hide (ltI t30 t29)) (must (leI (0 : Int) t30 && ltI t30 (↑t28.length : Int)) (cond (hide (ltI (mnI (Pr.x (List.getD t28 t30.toNat (Pr.mk (0 : Int) (0 : Int)))) (Pr.y (List.getD t28 t30.toNat (Pr.mk (0 : Int) (0 : Int))))) (0 : Int))) (some ((false, ()))) (cond (hide (leI ob0_1 (mxI (Pr.x (List.getD t28 t30.toNat (Pr.mk (0 : Int) (0 : Int)))) (Pr.y (List.getD t28 t30.toNat (Pr.mk (0 : Int) (0 : Int))))))) (some ((false, ()))) (A_12 t28 t29 (hide (wr (t30 + (1 : Int)))) ob0_0 ob0_1 ob0_2 ob0_3)))) (some ((true, ())))
def zla (N n : Nat) (t28 : List Pr) (t29 t30 ob0_0 ob0_1 : Int) (ob0_2 : List Row) (ob0_3 : List Pr) : Option (Bool × Unit) :=
  zao (fun A x => zk9 N (fun t28 t29 t30 ob0_0 ob0_1 ob0_2 ob0_3 => A (((), (t28, (t29, (t30, ())))), ((ob0_0, (ob0_1, (ob0_2, (ob0_3, ())))), ()))) x.1.2.1 x.1.2.2.1 x.1.2.2.2.1 x.2.1.1 x.2.1.2.1 x.2.1.2.2.1 x.2.1.2.2.2.1) n (((), (t28, (t29, (t30, ())))), ((ob0_0, (ob0_1, (ob0_2, (ob0_3, ())))), ()))
def zpK (N : Nat) (A_2 : (List Row) -> Int -> Int -> Int -> Int -> (List Row) -> (List Pr) -> Option (Bool × Unit)) (A_5 : (List Row) -> Int -> Int -> (List Int) -> Int -> Int -> Int -> (List Row) -> (List Pr) -> Option (Bool × Unit)) (t10 : List Row) (t11 t12 : Int) (t17 : List Int) (t18 ob0_0 ob0_1 : Int) (ob0_2 : List Row) (ob0_3 : List Pr) : Option (Bool × Unit) :=
  cond (hide (ltI t18 (3 : Int))) (must (leI (0 : Int) t18 && (ltI t18 (↑(3 : Nat) : Int) && ltI t18 (↑t17.length : Int))) (cond (hide (leI ob0_1 (List.getD t17 t18.toNat (0 : Int)))) (some ((false, ()))) (A_5 t10 t11 t12 t17 (hide (wr (t18 + (1 : Int)))) ob0_0 ob0_1 ob0_2 ob0_3))) (A_2 t10 t11 (hide (wr (t12 + (1 : Int)))) ob0_0 ob0_1 ob0_2 ob0_3)
def zpL (N : Nat) (A_2 : (List Row) -> Int -> Int -> Int -> Int -> (List Row) -> (List Pr) -> Option (Bool × Unit)) (n : Nat) (t10 : List Row) (t11 t12 : Int) (t17 : List Int) (t18 ob0_0 ob0_1 : Int) (ob0_2 : List Row) (ob0_3 : List Pr) : Option (Bool × Unit) :=
  zao (fun A x => zpK N A_2 (fun t10 t11 t12 t17 t18 ob0_0 ob0_1 ob0_2 ob0_3 => A (((), (t10, (t11, (t12, (t17, (t18, ())))))), ((ob0_0, (ob0_1, (ob0_2, (ob0_3, ())))), ()))) x.1.2.1 x.1.2.2.1 x.1.2.2.2.1 x.1.2.2.2.2.1 x.1.2.2.2.2.2.1 x.2.1.1 x.2.1.2.1 x.2.1.2.2.1 x.2.1.2.2.2.1) n (((), (t10, (t11, (t12, (t17, (t18, ())))))), ((ob0_0, (ob0_1, (ob0_2, (ob0_3, ())))), ()))
def zpM (N : Nat) (A_2 : (List Row) -> Int -> Int -> Int -> Int -> (List Row) -> (List Pr) -> Option (Bool × Unit)) (t10 : List Row) (t11 t12 ob0_0 ob0_1 : Int) (ob0_2 : List Row) (ob0_3 : List Pr) : Option (Bool × Unit) :=
  cond (hide (ltI t12 t11)) (must (leI (0 : Int) t12 && ltI t12 (↑t10.length : Int)) (zpL N A_2 N t10 t11 t12 ([Row.w0 (List.getD t10 t12.toNat zrow), Row.w1 (List.getD t10 t12.toNat zrow), Row.w2 (List.getD t10 t12.toNat zrow)]) (0 : Int) ob0_0 ob0_1 ob0_2 ob0_3)) (zla N N ob0_3 ((↑ob0_3.length : Int)) (0 : Int) ob0_0 ob0_1 ob0_2 ob0_3)
def zpN (N n : Nat) (t10 : List Row) (t11 t12 ob0_0 ob0_1 : Int) (ob0_2 : List Row) (ob0_3 : List Pr) : Option (Bool × Unit) :=
  zao (fun A x => zpM N (fun t10 t11 t12 ob0_0 ob0_1 ob0_2 ob0_3 => A (((), (t10, (t11, (t12, ())))), ((ob0_0, (ob0_1, (ob0_2, (ob0_3, ())))), ()))) x.1.2.1 x.1.2.2.1 x.1.2.2.2.1 x.2.1.1 x.2.1.2.1 x.2.1.2.2.1 x.2.1.2.2.2.1) n (((), (t10, (t11, (t12, ())))), ((ob0_0, (ob0_1, (ob0_2, (ob0_3, ())))), ()))
def p201 (N : Nat) (c0 v1 : Int) (v2 : List Row) (v3 : List Pr) : Option (Bool × Unit) :=
  zpN N N v2 ((↑v2.length : Int)) (0 : Int) c0 v1 v2 v3
def g201 (N : Nat) : Sg := sgK [(K.agg [.int, .int, .ro .row, .ro .pair] rfl)] [K.bool] fun x => p201 N x.1.1 x.1.2.1 x.1.2.2.1 x.1.2.2.2.1
def zxK : List (Nat × Head) := [
    (2, ⟨⟨51, [(1, .u (.c (.ptr0 3000000 0))), (10, .u (.c (.ro .row))), (11, .u (.c (.int))), (12, .u (.c (.int)))], [(3000000, ⟨false, 0, 80, .lit [.int, .int, .ro .row, .ro .pair]⟩)]⟩, .exit 0⟩),
    (12, ⟨⟨51, [(1, .u (.c (.ptr0 13000000 0))), (28, .u (.c (.ro .pair))), (29, .u (.c (.int))), (30, .u (.c (.int)))], [(13000000, ⟨false, 0, 80, .lit [.int, .int, .ro .row, .ro .pair]⟩)]⟩, .exit 4⟩),
    (5, ⟨⟨51, [(1, .u (.c (.ptr0 6000000 0))), (10, .u (.c (.ro .row))), (11, .u (.c (.int))), (12, .u (.c (.int))), (17, .u (.vec .int)), (18, .u (.c (.int)))], [(6000000, ⟨false, 0, 80, .lit [.int, .int, .ro .row, .ro .pair]⟩)]⟩, .exit 2⟩)]
def zxL (N : Nat) : List (Nat × Sg) := []
theorem zpO (N : Nat) : zaS Try.prog pd.els (zxL N) := trivial
theorem zvp (N : Nat) : SgOK Try.prog pd.els 201 (g201 N) :=
  zaE zaU (zai (zpO N)) Try.func201 (zat (by kernel_rfl)) [(K.agg [.int, .int, .ro .row, .ro .pair] rfl)] [K.bool] _ N zxK 4 fun x => by kernel_rfl
def p220 (N : Nat) (r0 : Row) : Option (Bool × Unit) :=
  Option.bind (p108 N (Stp.mk (7 : Int) r0.w0 (0 : Int) (0 : Int) (Fr.zero) (Fr.zero) (Fr.zero) (Fr.zero) (Fr.zero))) fun rr0 => cond (hide (leI (0 : Int) r0.w0)) (must (ltI (0 : Int) (↑rr0.1.length : Int)) (some ((hide (zbj r0 (List.getD rr0.1 (0 : Nat) zrow)), ())))) (some ((false, ())))
def g220 (N : Nat) : Sg := sgK [(K.st .row)] [K.bool] fun x => p220 N x.1
def zxM : List (Nat × Head) := [
    ]
def zxN (N : Nat) : List (Nat × Sg) := [(108, g108 N)]
theorem zpP (N : Nat) : zaS Try.prog pd.els (zxN N) := ⟨zvm N, trivial⟩
theorem zvq (N : Nat) : SgOK Try.prog pd.els 220 (g220 N) :=
  zaE zaU (zai (zpP N)) Try.func220 (zat (by kernel_rfl)) [(K.st .row)] [K.bool] _ N zxM 4 fun x => by kernel_rfl
def zpQ (N : Nat) (A_2 : (List Row) -> Int -> Int -> Int -> Int -> (List Row) -> (List Pr) -> Option (Bool × Unit)) (t6 : List Row) (t7 t8 ob0_0 ob0_1 : Int) (ob0_2 : List Row) (ob0_3 : List Pr) : Option (Bool × Unit) :=
  let u1 := List.getD t6 t8.toNat zrow
  let u2 := cond (hide (ltI (mnI (mnI (Row.w0 u1) (Row.w1 u1)) (Row.w2 u1)) (-1 : Int))) (some ((false, ()))) (A_2 t6 t7 (hide (wr (t8 + (1 : Int)))) ob0_0 ob0_1 ob0_2 ob0_3)
  let u3 := Row.q0 u1
  let u4 := Row.q1 u1
  let u5 := Row.q2 u1
  let u6 := Row.q3 u1
  let u7 := Row.q4 u1
  let u8 := Row.q5 u1
  let u9 := Row.q6 u1
  let u10 := Row.q7 u1
  cond (hide (ltI t8 t7)) (must (leI (0 : Int) t8 && ltI t8 (↑t6.length : Int)) (cond (hide (ltI t8 ob0_0)) (Option.bind (p220 N (Row.mk (Fr.mk (Fr.a0 u3) (Fr.a1 u3) (Fr.a2 u3) (Fr.a3 u3)) (Fr.mk (Fr.a0 u4) (Fr.a1 u4) (Fr.a2 u4) (Fr.a3 u4)) (Fr.mk (Fr.a0 u5) (Fr.a1 u5) (Fr.a2 u5) (Fr.a3 u5)) (Fr.mk (Fr.a0 u6) (Fr.a1 u6) (Fr.a2 u6) (Fr.a3 u6)) (Fr.mk (Fr.a0 u7) (Fr.a1 u7) (Fr.a2 u7) (Fr.a3 u7)) (Fr.mk (Fr.a0 u8) (Fr.a1 u8) (Fr.a2 u8) (Fr.a3 u8)) (Fr.mk (Fr.a0 u9) (Fr.a1 u9) (Fr.a2 u9) (Fr.a3 u9)) (Fr.mk (Fr.a0 u10) (Fr.a1 u10) (Fr.a2 u10) (Fr.a3 u10)) (Row.w0 u1) (Row.w1 u1) (Row.w2 u1))) fun r0 => cond (hide !r0.1) (some ((false, ()))) u2) u2)) (some ((true, ())))
def zpR (N n : Nat) (t6 : List Row) (t7 t8 ob0_0 ob0_1 : Int) (ob0_2 : List Row) (ob0_3 : List Pr) : Option (Bool × Unit) :=
  zao (fun A x => zpQ N (fun t6 t7 t8 ob0_0 ob0_1 ob0_2 ob0_3 => A (((), (t6, (t7, (t8, ())))), ((ob0_0, (ob0_1, (ob0_2, (ob0_3, ())))), ()))) x.1.2.1 x.1.2.2.1 x.1.2.2.2.1 x.2.1.1 x.2.1.2.1 x.2.1.2.2.1 x.2.1.2.2.2.1) n (((), (t6, (t7, (t8, ())))), ((ob0_0, (ob0_1, (ob0_2, (ob0_3, ())))), ()))
def p202 (N : Nat) (c0 v1 : Int) (v2 : List Row) (v3 : List Pr) : Option (Bool × Unit) :=
  zpR N N v2 ((↑v2.length : Int)) (0 : Int) c0 v1 v2 v3
def g202 (N : Nat) : Sg := sgK [(K.agg [.int, .int, .ro .row, .ro .pair] rfl)] [K.bool] fun x => p202 N x.1.1 x.1.2.1 x.1.2.2.1 x.1.2.2.2.1
def zxO : List (Nat × Head) := [
    (2, ⟨⟨36, [(1, .u (.c (.ptr0 3000000 0))), (6, .u (.c (.ro .row))), (7, .u (.c (.int))), (8, .u (.c (.int)))], [(3000000, ⟨false, 0, 80, .lit [.int, .int, .ro .row, .ro .pair]⟩)]⟩, .exit 0⟩)]
def zxP (N : Nat) : List (Nat × Sg) := [(220, g220 N)]
theorem zpS (N : Nat) : zaS Try.prog pd.els (zxP N) := ⟨zvq N, trivial⟩
theorem zvr (N : Nat) : SgOK Try.prog pd.els 202 (g202 N) :=
  zaE zaU (zai (zpS N)) Try.func202 (zat (by kernel_rfl)) [(K.agg [.int, .int, .ro .row, .ro .pair] rfl)] [K.bool] _ N zxO 4 fun x => by kernel_rfl
def p119 (N : Nat) (c0 v1 : Int) (v2 : List Row) (v3 : List Pr) : Option (Int × Unit) :=
  let u1 := some (((10 : Int), ()))
  let u2 := some (((1 : Int), ()))
  let u3 := some (((4 : Int), ()))
  let u4 := some (((3 : Int), ()))
  let u5 := some (((0 : Int), ()))
  let u6 := p200 N c0 v1 v2 v3
  let u7 := p201 N c0 v1 v2 v3
  let u8 := p202 N c0 v1 v2 v3
  let u9 := hide (ltI c0 (0 : Int))
  let u10 := hide (ltI v1 (0 : Int))
  let u11 := hide (ltI (↑v2.length : Int) c0)
  let u12 := some (((8 : Int), ()))
  let u13 := hide (ltI (64 : Int) (↑v2.length : Int))
  let u14 := hide (ltI (200 : Int) v1)
  cond (hide (ltI (8 : Int) c0)) (cond (hide (ltI (8 : Int) c0)) u12 (cond u9 (cond u9 u2 (Option.bind u6 fun r33 => cond (hide !r33.1) u3 (Option.bind u7 fun r34 => cond (hide !r34.1) u1 (Option.bind u8 fun r35 => cond (hide !r35.1) u4 u5)))) (cond u10 (cond u10 u2 (Option.bind u6 fun r30 => cond (hide !r30.1) u3 (Option.bind u7 fun r31 => cond (hide !r31.1) u1 (Option.bind u8 fun r32 => cond (hide !r32.1) u4 u5)))) (cond u11 u2 (Option.bind u6 fun r27 => cond (hide !r27.1) u3 (Option.bind u7 fun r28 => cond (hide !r28.1) u1 (Option.bind u8 fun r29 => cond (hide !r29.1) u4 u5))))))) (cond u14 (cond u14 u12 (cond u9 (cond u9 u2 (Option.bind u6 fun r24 => cond (hide !r24.1) u3 (Option.bind u7 fun r25 => cond (hide !r25.1) u1 (Option.bind u8 fun r26 => cond (hide !r26.1) u4 u5)))) (cond u10 (cond u10 u2 (Option.bind u6 fun r21 => cond (hide !r21.1) u3 (Option.bind u7 fun r22 => cond (hide !r22.1) u1 (Option.bind u8 fun r23 => cond (hide !r23.1) u4 u5)))) (cond u11 u2 (Option.bind u6 fun r18 => cond (hide !r18.1) u3 (Option.bind u7 fun r19 => cond (hide !r19.1) u1 (Option.bind u8 fun r20 => cond (hide !r20.1) u4 u5))))))) (cond u13 (cond u13 u12 (cond u9 (cond u9 u2 (Option.bind u6 fun r15 => cond (hide !r15.1) u3 (Option.bind u7 fun r16 => cond (hide !r16.1) u1 (Option.bind u8 fun r17 => cond (hide !r17.1) u4 u5)))) (cond u10 (cond u10 u2 (Option.bind u6 fun r12 => cond (hide !r12.1) u3 (Option.bind u7 fun r13 => cond (hide !r13.1) u1 (Option.bind u8 fun r14 => cond (hide !r14.1) u4 u5)))) (cond u11 u2 (Option.bind u6 fun r9 => cond (hide !r9.1) u3 (Option.bind u7 fun r10 => cond (hide !r10.1) u1 (Option.bind u8 fun r11 => cond (hide !r11.1) u4 u5))))))) (cond (hide (ltI (200 : Int) (↑v3.length : Int))) u12 (cond u9 (cond u9 u2 (Option.bind u6 fun r6 => cond (hide !r6.1) u3 (Option.bind u7 fun r7 => cond (hide !r7.1) u1 (Option.bind u8 fun r8 => cond (hide !r8.1) u4 u5)))) (cond u10 (cond u10 u2 (Option.bind u6 fun r3 => cond (hide !r3.1) u3 (Option.bind u7 fun r4 => cond (hide !r4.1) u1 (Option.bind u8 fun r5 => cond (hide !r5.1) u4 u5)))) (cond u11 u2 (Option.bind u6 fun r0 => cond (hide !r0.1) u3 (Option.bind u7 fun r1 => cond (hide !r1.1) u1 (Option.bind u8 fun r2 => cond (hide !r2.1) u4 u5)))))))))
def g119 (N : Nat) : Sg := sgK [(K.agg [.int, .int, .ro .row, .ro .pair] rfl)] [K.int] fun x => p119 N x.1.1 x.1.2.1 x.1.2.2.1 x.1.2.2.2.1
def zxQ : List (Nat × Head) := [
    ]
def zxR (N : Nat) : List (Nat × Sg) := [(200, g200 N), (201, g201 N), (202, g202 N)]
theorem zpT (N : Nat) : zaS Try.prog pd.els (zxR N) := ⟨zvo N, ⟨zvp N, ⟨zvr N, trivial⟩⟩⟩
theorem zpU (N : Nat) : SgOK Try.prog pd.els 119 (g119 N) :=
  zaE zaU (zai (zpT N)) Try.func119 (zat (by kernel_rfl)) [(K.agg [.int, .int, .ro .row, .ro .pair] rfl)] [K.int] _ N zxQ 4 fun x => by kernel_rfl
def zlb (N : Nat) (A_1000 : Int -> Int -> (List Row) -> (List Pr) -> (List Int) -> Option (List Int × Unit)) (A_19 : Bool -> Int -> Int -> Int -> Int -> (List Row) -> (List Pr) -> (List Int) -> Option (List Int × Unit)) (turned5 : Bool) (t64 t65 ob0_0 ob0_1 : Int) (ob0_2 : List Row) (ob0_3 : List Pr) (l3o : List Int) : Option (List Int × Unit) :=
  let u1 := List.getD l3o t65.toNat (0 : Int)
  let u2 := (↑l3o.length : Int)
  let u3 := List.getD l3o (Int.toNat u1) (0 : Int)
  let u4 := leI (0 : Int) t65 && ltI t65 u2
  let u5 := leI (0 : Int) u1 && ltI u1 u2
  let u6 := hide (wr (t65 + (1 : Int)))
  cond (hide (ltI t65 t64)) (must u4 (must u5 (cond (hide (ltI u3 u1)) (must u5 (must u4 (A_19 true t64 u6 ob0_0 ob0_1 ob0_2 ob0_3 (setL l3o t65.toNat u3)))) (A_19 turned5 t64 u6 ob0_0 ob0_1 ob0_2 ob0_3 l3o)))) (cond turned5 (A_1000 ob0_0 ob0_1 ob0_2 ob0_3 l3o) (some ((l3o, ()))))
def zlc (N : Nat) (A_1000 : Int -> Int -> (List Row) -> (List Pr) -> (List Int) -> Option (List Int × Unit)) (n : Nat) (turned5 : Bool) (t64 t65 ob0_0 ob0_1 : Int) (ob0_2 : List Row) (ob0_3 : List Pr) (l3o : List Int) : Option (List Int × Unit) :=
  zao (fun A x => zlb N A_1000 (fun turned5 t64 t65 ob0_0 ob0_1 ob0_2 ob0_3 l3o => A (((), ((), (turned5, ((), (t64, (t65, ())))))), ((ob0_0, (ob0_1, (ob0_2, (ob0_3, ())))), (l3o, ())))) x.1.2.2.1 x.1.2.2.2.2.1 x.1.2.2.2.2.2.1 x.2.1.1 x.2.1.2.1 x.2.1.2.2.1 x.2.1.2.2.2.1 x.2.2.1) n (((), ((), (turned5, ((), (t64, (t65, ())))))), ((ob0_0, (ob0_1, (ob0_2, (ob0_3, ())))), (l3o, ())))
def zld (N : Nat) (A_1000 : Int -> Int -> (List Row) -> (List Pr) -> (List Int) -> Option (List Int × Unit)) (A_11 : Bool -> (List Pr) -> Int -> Int -> Int -> Int -> (List Row) -> (List Pr) -> (List Int) -> Option (List Int × Unit)) (turned5 : Bool) (t29 : List Pr) (t30 t31 ob0_0 ob0_1 : Int) (ob0_2 : List Row) (ob0_3 : List Pr) (l3o : List Int) : Option (List Int × Unit) :=
  let u1 := List.getD t29 t31.toNat (Pr.mk (0 : Int) (0 : Int))
  let u4 := Int.toNat (Pr.x u1)
  let u9 := List.getD l3o u4 (0 : Int)
  let u7 := Pr.y u1
  let u5 := List.getD l3o (Int.toNat u7) (0 : Int)
  let u2 := mnI u9 u5
  let u6 := (↑l3o.length : Int)
  let u3 := leI (0 : Int) (Pr.x u1) && ltI (Pr.x u1) u6
  let u8 := hide (wr (t31 + (1 : Int)))
  cond (hide (ltI t31 t30)) (must (leI (0 : Int) t31 && ltI t31 (↑t29.length : Int)) (must u3 (must (leI (0 : Int) u7 && ltI u7 u6) (cond (hide !eqI u9 u5) (must u3 (must (leI (0 : Int) u7 && ltI u7 (↑(List.length (setL l3o u4 u2)) : Int)) (A_11 true t29 t30 u8 ob0_0 ob0_1 ob0_2 ob0_3 (setL (setL l3o u4 u2) (Int.toNat u7) u2)))) (A_11 turned5 t29 t30 u8 ob0_0 ob0_1 ob0_2 ob0_3 l3o))))) (zlc N A_1000 N turned5 (u6) (0 : Int) ob0_0 ob0_1 ob0_2 ob0_3 l3o)
def zle (N : Nat) (A_1000 : Int -> Int -> (List Row) -> (List Pr) -> (List Int) -> Option (List Int × Unit)) (n : Nat) (turned5 : Bool) (t29 : List Pr) (t30 t31 ob0_0 ob0_1 : Int) (ob0_2 : List Row) (ob0_3 : List Pr) (l3o : List Int) : Option (List Int × Unit) :=
  zao (fun A x => zld N A_1000 (fun turned5 t29 t30 t31 ob0_0 ob0_1 ob0_2 ob0_3 l3o => A (((), ((), (turned5, (t29, (t30, (t31, ())))))), ((ob0_0, (ob0_1, (ob0_2, (ob0_3, ())))), (l3o, ())))) x.1.2.2.1 x.1.2.2.2.1 x.1.2.2.2.2.1 x.1.2.2.2.2.2.1 x.2.1.1 x.2.1.2.1 x.2.1.2.2.1 x.2.1.2.2.2.1 x.2.2.1) n (((), ((), (turned5, (t29, (t30, (t31, ())))))), ((ob0_0, (ob0_1, (ob0_2, (ob0_3, ())))), (l3o, ())))
def zgu (N : Nat) (A_1000 : Int -> Int -> (List Row) -> (List Pr) -> (List Int) -> Option (List Int × Unit)) (ob0_0 ob0_1 : Int) (ob0_2 : List Row) (ob0_3 : List Pr) (l3o : List Int) : Option (List Int × Unit) :=
  zle N A_1000 N false ob0_3 ((↑ob0_3.length : Int)) (0 : Int) ob0_0 ob0_1 ob0_2 ob0_3 l3o
def zgv (N n : Nat) (ob0_0 ob0_1 : Int) (ob0_2 : List Row) (ob0_3 : List Pr) (l3o : List Int) : Option (List Int × Unit) :=
  zao (fun A x => zgu N (fun ob0_0 ob0_1 ob0_2 ob0_3 l3o => A (((), ((), ())), ((ob0_0, (ob0_1, (ob0_2, (ob0_3, ())))), (l3o, ())))) x.2.1.1 x.2.1.2.1 x.2.1.2.2.1 x.2.1.2.2.2.1 x.2.2.1) n (((), ((), ())), ((ob0_0, (ob0_1, (ob0_2, (ob0_3, ())))), (l3o, ())))
def zpV (N : Nat) (A_5 : Int -> Int -> Int -> Int -> (List Row) -> (List Pr) -> (List Int) -> Option (List Int × Unit)) (t19 t20 ob0_0 ob0_1 : Int) (ob0_2 : List Row) (ob0_3 : List Pr) (l3o : List Int) : Option (List Int × Unit) :=
  cond (hide (ltI t20 t19)) (must (leI (0 : Int) t20 && ltI t20 (↑l3o.length : Int)) (A_5 t19 (hide (wr (t20 + (1 : Int)))) ob0_0 ob0_1 ob0_2 ob0_3 (setL l3o t20.toNat t20))) (zgv N N ob0_0 ob0_1 ob0_2 ob0_3 l3o)
def zpW (N n : Nat) (t19 t20 ob0_0 ob0_1 : Int) (ob0_2 : List Row) (ob0_3 : List Pr) (l3o : List Int) : Option (List Int × Unit) :=
  zao (fun A x => zpV N (fun t19 t20 ob0_0 ob0_1 ob0_2 ob0_3 l3o => A (((), ((), (t19, (t20, ())))), ((ob0_0, (ob0_1, (ob0_2, (ob0_3, ())))), (l3o, ())))) x.1.2.2.1 x.1.2.2.2.1 x.2.1.1 x.2.1.2.1 x.2.1.2.2.1 x.2.1.2.2.2.1 x.2.2.1) n (((), ((), (t19, (t20, ())))), ((ob0_0, (ob0_1, (ob0_2, (ob0_3, ())))), (l3o, ())))
def p134 (N : Nat) (c0 v1 : Int) (v2 : List Row) (v3 : List Pr) : Option (List Int × Unit) :=
  Option.bind (p119 N c0 v1 v2 v3) fun r0 => cond (hide !eqI r0.1 (0 : Int)) (some (([], ()))) (must (leI (0 : Int) v1 && (eqI v1 v1 && leN (Int.toNat v1 * (8 : Nat)) (140737488355328 : Nat))) (zpW N N ((↑(List.length (List.replicate v1.toNat (0 : Int))) : Int)) (0 : Int) c0 v1 v2 v3 (List.replicate v1.toNat (0 : Int))))
def g134 (N : Nat) : Sg := sgK [(K.agg [.int, .int, .ro .row, .ro .pair] rfl)] [(K.ro .int)] fun x => p134 N x.1.1 x.1.2.1 x.1.2.2.1 x.1.2.2.2.1
def zxS : List (Nat × Head) := [
    (5, ⟨⟨86, [(1, .u (.c (.ptr0 6000000 0))), (3, .u (.c (.row 6000001))), (19, .u (.c (.int))), (20, .u (.c (.int)))], [(6000000, ⟨false, 0, 80, .lit [.int, .int, .ro .row, .ro .pair]⟩), (6000001, ⟨true, 0, 3, .vec .int⟩)]⟩, .exit 0⟩),
    (1000, ⟨⟨86, [(1, .u (.c (.ptr0 1001000000 0))), (3, .u (.c (.row 1001000001)))], [(1001000000, ⟨false, 0, 80, .lit [.int, .int, .ro .row, .ro .pair]⟩), (1001000001, ⟨true, 0, 3, .vec .int⟩)]⟩, .fall⟩),
    (11, ⟨⟨86, [(1, .u (.c (.ptr0 12000000 0))), (3, .u (.c (.row 12000001))), (5, .u (.c (.bool))), (29, .u (.c (.ro .pair))), (30, .u (.c (.int))), (31, .u (.c (.int)))], [(12000000, ⟨false, 0, 80, .lit [.int, .int, .ro .row, .ro .pair]⟩), (12000001, ⟨true, 0, 3, .vec .int⟩)]⟩, .exit 2⟩),
    (19, ⟨⟨86, [(1, .u (.c (.ptr0 20000000 0))), (3, .u (.c (.row 20000001))), (5, .u (.c (.bool))), (63, .u (.c (.row 20000001))), (64, .u (.c (.int))), (65, .u (.c (.int)))], [(20000000, ⟨false, 0, 80, .lit [.int, .int, .ro .row, .ro .pair]⟩), (20000001, ⟨true, 0, 3, .vec .int⟩)]⟩, .exit 4⟩)]
def zxT (N : Nat) : List (Nat × Sg) := [(119, g119 N)]
theorem zpX (N : Nat) : zaS Try.prog pd.els (zxT N) := ⟨zpU N, trivial⟩
theorem zlf (N : Nat) : SgOK Try.prog pd.els 134 (g134 N) :=
  zaE zaU (zai (zpX N)) Try.func134 (zat (by kernel_rfl)) [(K.agg [.int, .int, .ro .row, .ro .pair] rfl)] [(K.ro .int)] _ N zxS 4 fun x => by kernel_rfl
def zlg (N : Nat) (A_13 : Int -> Int -> Int -> Int -> (List Row) -> (List Pr) -> (List Int) -> (List Int) -> (List Int) -> (List Int) -> (List Int) -> (List Int) -> (List Int) -> (List Int) -> (List Int) -> Option ((List Int × List Int × List Int × Unit) × Int × Unit)) (A_17 : Int -> Int -> Int -> Int -> Int -> Int -> Int -> (List Row) -> (List Pr) -> (List Int) -> (List Int) -> (List Int) -> (List Int) -> (List Int) -> (List Int) -> (List Int) -> (List Int) -> (List Int) -> Option ((List Int × List Int × List Int × Unit) × Int × Unit)) (n6 j12 t54 t61 t62 ob0_0 ob0_1 : Int) (ob0_2 : List Row) (ob0_3 : List Pr) (l8o first9o last10o ob6 ob7 ob8 ob9 ob10 ob11 : List Int) : Option ((List Int × List Int × List Int × Unit) × Int × Unit) :=
  let u1 := List.getD ob0_2 t62.toNat zrow
  let u58 := Row.w0 u1
  let u2 := List.getD l8o (Int.toNat u58) (0 : Int)
  let u59 := Row.w1 u1
  let u3 := List.getD l8o (Int.toNat u59) (0 : Int)
  let u60 := Row.w2 u1
  let u4 := List.getD l8o (Int.toNat u60) (0 : Int)
  let u5 := hide (wr (hide (wr (j12 * n6)) + t62))
  let u42 := Int.toNat u2
  let u52 := List.getD last10o u42 (0 : Int)
  let u6 := hide (Int.tmod u52 n6)
  let u43 := Int.toNat u3
  let u53 := List.getD last10o u43 (0 : Int)
  let u7 := hide (Int.tmod u53 n6)
  let u44 := Int.toNat u4
  let u54 := List.getD last10o u44 (0 : Int)
  let u8 := hide (Int.tmod u54 n6)
  let u9 := (↑last10o.length : Int)
  let u10 := hide (wr (t62 + (1 : Int)))
  let u11 := (↑((0 : Nat) + (1 : Nat) + (1 : Nat)) : Int)
  let u12 := (↑((0 : Nat) + (1 : Nat)) : Int)
  let u13 := (↑first9o.length : Int)
  let u14 := leI (0 : Int) t62 && ltI t62 (↑ob0_2.length : Int)
  let u15 := leI (0 : Int) u2 && ltI u2 u9
  let u16 := leI (0 : Int) u3 && ltI u3 u9
  let u17 := leI (0 : Int) u4 && ltI u4 u9
  let u18 := setL ob10 t62.toNat u5
  let u19 := setL ob11 t62.toNat u5
  let u20 := setL ob9 t62.toNat u5
  let u21 := !eqI n6 (0 : Int)
  let u22 := (↑(0 : Nat) : Int)
  let u23 := hide (wr (Int.tdiv u52 n6))
  let u24 := hide (wr (Int.tdiv u53 n6))
  let u25 := hide (wr (Int.tdiv u54 n6))
  let u26 := List.getD first9o u42 (0 : Int)
  let u27 := List.getD first9o u43 (0 : Int)
  let u28 := List.getD first9o u44 (0 : Int)
  let u29 := leI (0 : Int) u2 && ltI u2 u13
  let u30 := leI (0 : Int) u3 && ltI u3 u13
  let u31 := leI (0 : Int) u4 && ltI u4 u13
  let u32 := A_17 n6 (u22) t54 t61 u10 ob0_0 ob0_1 ob0_2 ob0_3 l8o first9o last10o ob6 ob7 ob8 u20 ob10 ob11
  let u33 := A_17 n6 (u12) t54 t61 u10 ob0_0 ob0_1 ob0_2 ob0_3 l8o first9o last10o ob6 ob7 ob8 ob9 u18 ob11
  let u34 := A_17 n6 (u11) t54 t61 u10 ob0_0 ob0_1 ob0_2 ob0_3 l8o first9o last10o ob6 ob7 ob8 ob9 ob10 u19
  let u35 := setL last10o u42 u5
  let u36 := setL last10o u43 u5
  let u37 := setL last10o u44 u5
  let u38 := hide (leI (↑ob0_2.length : Int) t62)
  let u55 := (↑(List.length u20) : Int)
  let u39 := leI (0 : Int) t62 && ltI t62 u55
  let u56 := (↑(List.length u18) : Int)
  let u40 := leI (0 : Int) t62 && ltI t62 u56
  let u57 := (↑(List.length u19) : Int)
  let u41 := leI (0 : Int) t62 && ltI t62 u57
  let u45 := (↑ob10.length : Int)
  let u46 := (↑ob11.length : Int)
  let u47 := (↑ob9.length : Int)
  let u48 := (↑l8o.length : Int)
  let u49 := Int.toNat u6
  let u50 := Int.toNat u7
  let u51 := Int.toNat u8
  cond (hide (ltI t62 t61)) (cond (eqI j12 u22) (must (eqI j12 u22) (must (leI (0 : Int) t62 && ltI t62 u47) (cond u38 u32 (must u14 (cond (hide (ltI u58 (0 : Int))) u32 (must u14 (must (leI (0 : Int) u58 && ltI u58 u48) (must u29 (cond (hide (ltI u26 (0 : Int))) (must u29 (must u15 (A_17 n6 (u22) t54 t61 u10 ob0_0 ob0_1 ob0_2 ob0_3 l8o (setL first9o u42 u5) u35 ob6 ob7 ob8 u20 ob10 ob11))) (must u15 (must u21 (cond (eqI u23 u22) (must u15 (must u21 (must (leI (0 : Int) u6 && ltI u6 u55) (must u29 (must (leI (0 : Int) t62 && ltI t62 (↑(List.length (setL u20 u49 u5)) : Int)) (must u15 (A_17 n6 (u22) t54 t61 u10 ob0_0 ob0_1 ob0_2 ob0_3 l8o first9o u35 ob6 ob7 ob8 (setL (setL u20 u49 u5) t62.toNat u26) ob10 ob11))))))) (cond (eqI u23 u12) (must u15 (must u21 (must (leI (0 : Int) u6 && ltI u6 u45) (must u29 (must u39 (must u15 (A_17 n6 (u22) t54 t61 u10 ob0_0 ob0_1 ob0_2 ob0_3 l8o first9o u35 ob6 ob7 ob8 (setL u20 t62.toNat u26) (setL ob10 u49 u5) ob11))))))) (must (eqI u23 u11) (must u15 (must u21 (must (leI (0 : Int) u6 && ltI u6 u46) (must u29 (must u39 (must u15 (A_17 n6 (u22) t54 t61 u10 ob0_0 ob0_1 ob0_2 ob0_3 l8o first9o u35 ob6 ob7 ob8 (setL u20 t62.toNat u26) ob10 (setL ob11 u49 u5)))))))))))))))))))))) (cond (eqI j12 u12) (must (eqI j12 u12) (must (leI (0 : Int) t62 && ltI t62 u45) (cond u38 u33 (must u14 (cond (hide (ltI u59 (0 : Int))) u33 (must u14 (must (leI (0 : Int) u59 && ltI u59 u48) (must u30 (cond (hide (ltI u27 (0 : Int))) (must u30 (must u16 (A_17 n6 (u12) t54 t61 u10 ob0_0 ob0_1 ob0_2 ob0_3 l8o (setL first9o u43 u5) u36 ob6 ob7 ob8 ob9 u18 ob11))) (must u16 (must u21 (cond (eqI u24 u22) (must u16 (must u21 (must (leI (0 : Int) u7 && ltI u7 u47) (must u30 (must u40 (must u16 (A_17 n6 (u12) t54 t61 u10 ob0_0 ob0_1 ob0_2 ob0_3 l8o first9o u36 ob6 ob7 ob8 (setL ob9 u50 u5) (setL u18 t62.toNat u27) ob11))))))) (cond (eqI u24 u12) (must u16 (must u21 (must (leI (0 : Int) u7 && ltI u7 u56) (must u30 (must (leI (0 : Int) t62 && ltI t62 (↑(List.length (setL u18 u50 u5)) : Int)) (must u16 (A_17 n6 (u12) t54 t61 u10 ob0_0 ob0_1 ob0_2 ob0_3 l8o first9o u36 ob6 ob7 ob8 ob9 (setL (setL u18 u50 u5) t62.toNat u27) ob11))))))) (must (eqI u24 u11) (must u16 (must u21 (must (leI (0 : Int) u7 && ltI u7 u46) (must u30 (must u40 (must u16 (A_17 n6 (u12) t54 t61 u10 ob0_0 ob0_1 ob0_2 ob0_3 l8o first9o u36 ob6 ob7 ob8 ob9 (setL u18 t62.toNat u27) (setL ob11 u50 u5)))))))))))))))))))))) (must (eqI j12 u11) (must (eqI j12 u11) (must (leI (0 : Int) t62 && ltI t62 u46) (cond u38 u34 (must u14 (cond (hide (ltI u60 (0 : Int))) u34 (must u14 (must (leI (0 : Int) u60 && ltI u60 u48) (must u31 (cond (hide (ltI u28 (0 : Int))) (must u31 (must u17 (A_17 n6 (u11) t54 t61 u10 ob0_0 ob0_1 ob0_2 ob0_3 l8o (setL first9o u44 u5) u37 ob6 ob7 ob8 ob9 ob10 u19))) (must u17 (must u21 (cond (eqI u25 u22) (must u17 (must u21 (must (leI (0 : Int) u8 && ltI u8 u47) (must u31 (must u41 (must u17 (A_17 n6 (u11) t54 t61 u10 ob0_0 ob0_1 ob0_2 ob0_3 l8o first9o u37 ob6 ob7 ob8 (setL ob9 u51 u5) ob10 (setL u19 t62.toNat u28)))))))) (cond (eqI u25 u12) (must u17 (must u21 (must (leI (0 : Int) u8 && ltI u8 u45) (must u31 (must u41 (must u17 (A_17 n6 (u11) t54 t61 u10 ob0_0 ob0_1 ob0_2 ob0_3 l8o first9o u37 ob6 ob7 ob8 ob9 (setL ob10 u51 u5) (setL u19 t62.toNat u28)))))))) (must (eqI u25 u11) (must u17 (must u21 (must (leI (0 : Int) u8 && ltI u8 u57) (must u31 (must (leI (0 : Int) t62 && ltI t62 (↑(List.length (setL u19 u51 u5)) : Int)) (must u17 (A_17 n6 (u11) t54 t61 u10 ob0_0 ob0_1 ob0_2 ob0_3 l8o first9o u37 ob6 ob7 ob8 ob9 ob10 (setL (setL u19 u51 u5) t62.toNat u28))))))))))))))))))))))))) (A_13 n6 (hide (wr (t54 + (1 : Int)))) ob0_0 ob0_1 ob0_2 ob0_3 l8o first9o last10o ob6 ob7 ob8 ob9 ob10 ob11)
def zgw (N : Nat) (A_13 : Int -> Int -> Int -> Int -> (List Row) -> (List Pr) -> (List Int) -> (List Int) -> (List Int) -> (List Int) -> (List Int) -> (List Int) -> (List Int) -> (List Int) -> (List Int) -> Option ((List Int × List Int × List Int × Unit) × Int × Unit)) (n : Nat) (n6 j12 t54 t61 t62 ob0_0 ob0_1 : Int) (ob0_2 : List Row) (ob0_3 : List Pr) (l8o first9o last10o ob6 ob7 ob8 ob9 ob10 ob11 : List Int) : Option ((List Int × List Int × List Int × Unit) × Int × Unit) :=
  zao (fun A x => zlg N A_13 (fun n6 j12 t54 t61 t62 ob0_0 ob0_1 ob0_2 ob0_3 l8o first9o last10o ob6 ob7 ob8 ob9 ob10 ob11 => A (((), ((), (n6, ((), ((), ((), ((), (j12, (t54, (t61, (t62, ()))))))))))), ((ob0_0, (ob0_1, (ob0_2, (ob0_3, ())))), (((), ((), ((), ()))), (((), ((), ((), ()))), (l8o, (first9o, (last10o, (ob6, (ob7, (ob8, (ob9, (ob10, (ob11, ())))))))))))))) x.1.2.2.1 x.1.2.2.2.2.2.2.2.1 x.1.2.2.2.2.2.2.2.2.1 x.1.2.2.2.2.2.2.2.2.2.1 x.1.2.2.2.2.2.2.2.2.2.2.1 x.2.1.1 x.2.1.2.1 x.2.1.2.2.1 x.2.1.2.2.2.1 x.2.2.2.2.1 x.2.2.2.2.2.1 x.2.2.2.2.2.2.1 x.2.2.2.2.2.2.2.1 x.2.2.2.2.2.2.2.2.1 x.2.2.2.2.2.2.2.2.2.1 x.2.2.2.2.2.2.2.2.2.2.1 x.2.2.2.2.2.2.2.2.2.2.2.1 x.2.2.2.2.2.2.2.2.2.2.2.2.1) n (((), ((), (n6, ((), ((), ((), ((), (j12, (t54, (t61, (t62, ()))))))))))), ((ob0_0, (ob0_1, (ob0_2, (ob0_3, ())))), (((), ((), ((), ()))), (((), ((), ((), ()))), (l8o, (first9o, (last10o, (ob6, (ob7, (ob8, (ob9, (ob10, (ob11, ())))))))))))))
def zlh (N : Nat) (A_13 : Int -> Int -> Int -> Int -> (List Row) -> (List Pr) -> (List Int) -> (List Int) -> (List Int) -> (List Int) -> (List Int) -> (List Int) -> (List Int) -> (List Int) -> (List Int) -> Option ((List Int × List Int × List Int × Unit) × Int × Unit)) (n6 t54 ob0_0 ob0_1 : Int) (ob0_2 : List Row) (ob0_3 : List Pr) (l8o first9o last10o ob6 ob7 ob8 ob9 ob10 ob11 : List Int) : Option ((List Int × List Int × List Int × Unit) × Int × Unit) :=
  let u1 := (↑((0 : Nat) + (1 : Nat) + (1 : Nat)) : Int)
  let u2 := List.replicate n6.toNat (0 : Int)
  let u3 := (↑((0 : Nat) + (1 : Nat)) : Int)
  let u4 := (↑(0 : Nat) : Int)
  cond (hide (ltI t54 (3 : Int))) (must (leI (0 : Int) n6 && (eqI n6 n6 && leN (Int.toNat n6 * (8 : Nat)) (140737488355328 : Nat))) (cond (eqI t54 u4) (must (eqI t54 u4) (zgw N A_13 N n6 (u4) t54 n6 (0 : Int) ob0_0 ob0_1 ob0_2 ob0_3 l8o first9o last10o ob6 ob7 ob8 u2 ob10 ob11)) (cond (eqI t54 u3) (must (eqI t54 u3) (zgw N A_13 N n6 (u3) t54 n6 (0 : Int) ob0_0 ob0_1 ob0_2 ob0_3 l8o first9o last10o ob6 ob7 ob8 ob9 u2 ob11)) (must (eqI t54 u1) (must (eqI t54 u1) (zgw N A_13 N n6 (u1) t54 n6 (0 : Int) ob0_0 ob0_1 ob0_2 ob0_3 l8o first9o last10o ob6 ob7 ob8 ob9 ob10 u2)))))) (some (((ob9, ob10, ob11, ()), (0 : Int), ())))
def zli (N n : Nat) (n6 t54 ob0_0 ob0_1 : Int) (ob0_2 : List Row) (ob0_3 : List Pr) (l8o first9o last10o ob6 ob7 ob8 ob9 ob10 ob11 : List Int) : Option ((List Int × List Int × List Int × Unit) × Int × Unit) :=
  zao (fun A x => zlh N (fun n6 t54 ob0_0 ob0_1 ob0_2 ob0_3 l8o first9o last10o ob6 ob7 ob8 ob9 ob10 ob11 => A (((), ((), (n6, ((), ((), ((), ((), (t54, ())))))))), ((ob0_0, (ob0_1, (ob0_2, (ob0_3, ())))), (((), ((), ((), ()))), (((), ((), ((), ()))), (l8o, (first9o, (last10o, (ob6, (ob7, (ob8, (ob9, (ob10, (ob11, ())))))))))))))) x.1.2.2.1 x.1.2.2.2.2.2.2.2.1 x.2.1.1 x.2.1.2.1 x.2.1.2.2.1 x.2.1.2.2.2.1 x.2.2.2.2.1 x.2.2.2.2.2.1 x.2.2.2.2.2.2.1 x.2.2.2.2.2.2.2.1 x.2.2.2.2.2.2.2.2.1 x.2.2.2.2.2.2.2.2.2.1 x.2.2.2.2.2.2.2.2.2.2.1 x.2.2.2.2.2.2.2.2.2.2.2.1 x.2.2.2.2.2.2.2.2.2.2.2.2.1) n (((), ((), (n6, ((), ((), ((), ((), (t54, ())))))))), ((ob0_0, (ob0_1, (ob0_2, (ob0_3, ())))), (((), ((), ((), ()))), (((), ((), ((), ()))), (l8o, (first9o, (last10o, (ob6, (ob7, (ob8, (ob9, (ob10, (ob11, ())))))))))))))
def zpY (N : Nat) (A_8 : Int -> Int -> Int -> Int -> Int -> (List Row) -> (List Pr) -> (List Int) -> (List Int) -> (List Int) -> (List Int) -> (List Int) -> (List Int) -> (List Int) -> (List Int) -> (List Int) -> Option ((List Int × List Int × List Int × Unit) × Int × Unit)) (n6 t46 t47 ob0_0 ob0_1 : Int) (ob0_2 : List Row) (ob0_3 : List Pr) (l8o first9o last10o ob6 ob7 ob8 ob9 ob10 ob11 : List Int) : Option ((List Int × List Int × List Int × Unit) × Int × Unit) :=
  cond (hide (ltI t47 t46)) (must (leI (0 : Int) t47 && ltI t47 (↑first9o.length : Int)) (A_8 n6 t46 (hide (wr (t47 + (1 : Int)))) ob0_0 ob0_1 ob0_2 ob0_3 l8o (setL first9o t47.toNat (-1 : Int)) last10o ob6 ob7 ob8 ob9 ob10 ob11)) (zli N N n6 (0 : Int) ob0_0 ob0_1 ob0_2 ob0_3 l8o first9o last10o ob6 ob7 ob8 ob9 ob10 ob11)
def zpZ (N n : Nat) (n6 t46 t47 ob0_0 ob0_1 : Int) (ob0_2 : List Row) (ob0_3 : List Pr) (l8o first9o last10o ob6 ob7 ob8 ob9 ob10 ob11 : List Int) : Option ((List Int × List Int × List Int × Unit) × Int × Unit) :=
  zao (fun A x => zpY N (fun n6 t46 t47 ob0_0 ob0_1 ob0_2 ob0_3 l8o first9o last10o ob6 ob7 ob8 ob9 ob10 ob11 => A (((), ((), (n6, ((), ((), ((), ((), (t46, (t47, ()))))))))), ((ob0_0, (ob0_1, (ob0_2, (ob0_3, ())))), (((), ((), ((), ()))), (((), ((), ((), ()))), (l8o, (first9o, (last10o, (ob6, (ob7, (ob8, (ob9, (ob10, (ob11, ())))))))))))))) x.1.2.2.1 x.1.2.2.2.2.2.2.2.1 x.1.2.2.2.2.2.2.2.2.1 x.2.1.1 x.2.1.2.1 x.2.1.2.2.1 x.2.1.2.2.2.1 x.2.2.2.2.1 x.2.2.2.2.2.1 x.2.2.2.2.2.2.1 x.2.2.2.2.2.2.2.1 x.2.2.2.2.2.2.2.2.1 x.2.2.2.2.2.2.2.2.2.1 x.2.2.2.2.2.2.2.2.2.2.1 x.2.2.2.2.2.2.2.2.2.2.2.1 x.2.2.2.2.2.2.2.2.2.2.2.2.1) n (((), ((), (n6, ((), ((), ((), ((), (t46, (t47, ()))))))))), ((ob0_0, (ob0_1, (ob0_2, (ob0_3, ())))), (((), ((), ((), ()))), (((), ((), ((), ()))), (l8o, (first9o, (last10o, (ob6, (ob7, (ob8, (ob9, (ob10, (ob11, ())))))))))))))
def p131 (N : Nat) (c0 log1 : Int) (v2 : List Row) (v3 : List Pr) (v4 : Int) : Option ((List Int × List Int × List Int × Unit) × Int × Unit) :=
  let u1 := leI (0 : Int) log1 && (eqI log1 log1 && leN (Int.toNat log1 * (8 : Nat)) (140737488355328 : Nat))
  let u2 := some ((([], [], [], ()), (1 : Int), ()))
  let u3 := List.replicate log1.toNat (0 : Int)
  let u4 := hide (shlI (1 : Int) (UInt64.toNat (hide (u64I v4))))
  Option.bind (p204 N v4) fun rr0 => cond (hide !rr0.1) u2 (cond (hide (ltI u4 (↑v2.length : Int))) u2 (Option.bind (p119 N c0 log1 v2 v3) fun rr1 => cond (hide !eqI rr1.1 (0 : Int)) u2 (Option.bind (p134 N c0 log1 v2 v3) fun rr2 => must u1 (must u1 (zpZ N N u4 ((↑(List.length u3) : Int)) (0 : Int) c0 log1 v2 v3 rr2.1 u3 u3 [] [] [] [] [] [])))))
def g131 (N : Nat) : Sg := sgK [(K.agg [.int, .int, .ro .row, .ro .pair] rfl), K.int] [(K.agg [.ro .int, .ro .int, .ro .int] rfl), K.int] fun x => p131 N x.1.1 x.1.2.1 x.1.2.2.1 x.1.2.2.2.1 x.2.1
def zxU : List (Nat × Head) := [
    (8, ⟨⟨144, [(2, .u (.c (.ptr0 9000000 0))), (4, .u (.c (.ptr0 9000001 0))), (6, .u (.c (.int))), (7, .u (.c (.ptr0 9000002 0))), (8, .u (.c (.row 9000003))), (9, .u (.c (.row 9000004))), (10, .u (.c (.row 9000005))), (46, .u (.c (.int))), (47, .u (.c (.int)))], [(9000000, ⟨false, 0, 80, .lit [.int, .int, .ro .row, .ro .pair]⟩), (9000001, ⟨false, 0, 148, .lit [.row 9000006, .row 9000007, .row 9000008]⟩), (9000002, ⟨false, 0, 148, .lit [.row 9000009, .row 9000010, .row 9000011]⟩), (9000003, ⟨true, 0, 3, .vec .int⟩), (9000004, ⟨true, 0, 3, .vec .int⟩), (9000005, ⟨true, 0, 3, .vec .int⟩), (9000006, ⟨true, 0, 3, .vec .int⟩), (9000007, ⟨true, 0, 3, .vec .int⟩), (9000008, ⟨true, 0, 3, .vec .int⟩), (9000009, ⟨true, 0, 3, .vec .int⟩), (9000010, ⟨true, 0, 3, .vec .int⟩), (9000011, ⟨true, 0, 3, .vec .int⟩)]⟩, .exit 0⟩),
    (13, ⟨⟨144, [(2, .u (.c (.ptr0 14000000 0))), (4, .u (.c (.ptr0 14000001 0))), (6, .u (.c (.int))), (7, .u (.c (.ptr0 14000002 0))), (8, .u (.c (.row 14000003))), (9, .u (.c (.row 14000004))), (10, .u (.c (.row 14000005))), (54, .u (.c (.int)))], [(14000000, ⟨false, 0, 80, .lit [.int, .int, .ro .row, .ro .pair]⟩), (14000001, ⟨false, 0, 148, .lit [.row 14000006, .row 14000007, .row 14000008]⟩), (14000002, ⟨false, 0, 148, .lit [.row 14000009, .row 14000010, .row 14000011]⟩), (14000003, ⟨true, 0, 3, .vec .int⟩), (14000004, ⟨true, 0, 3, .vec .int⟩), (14000005, ⟨true, 0, 3, .vec .int⟩), (14000006, ⟨true, 0, 3, .vec .int⟩), (14000007, ⟨true, 0, 3, .vec .int⟩), (14000008, ⟨true, 0, 3, .vec .int⟩), (14000009, ⟨true, 0, 3, .vec .int⟩), (14000010, ⟨true, 0, 3, .vec .int⟩), (14000011, ⟨true, 0, 3, .vec .int⟩)]⟩, .exit 2⟩),
    (17, ⟨⟨144, [(2, .u (.c (.ptr0 18000000 0))), (4, .u (.c (.ptr0 18000001 0))), (6, .u (.c (.int))), (7, .u (.c (.ptr0 18000002 0))), (8, .u (.c (.row 18000003))), (9, .u (.c (.row 18000004))), (10, .u (.c (.row 18000005))), (12, .u (.c (.int))), (54, .u (.c (.int))), (61, .u (.c (.int))), (62, .u (.c (.int)))], [(18000000, ⟨false, 0, 80, .lit [.int, .int, .ro .row, .ro .pair]⟩), (18000001, ⟨false, 0, 148, .lit [.row 18000006, .row 18000007, .row 18000008]⟩), (18000002, ⟨false, 0, 148, .lit [.row 18000009, .row 18000010, .row 18000011]⟩), (18000003, ⟨true, 0, 3, .vec .int⟩), (18000004, ⟨true, 0, 3, .vec .int⟩), (18000005, ⟨true, 0, 3, .vec .int⟩), (18000006, ⟨true, 0, 3, .vec .int⟩), (18000007, ⟨true, 0, 3, .vec .int⟩), (18000008, ⟨true, 0, 3, .vec .int⟩), (18000009, ⟨true, 0, 3, .vec .int⟩), (18000010, ⟨true, 0, 3, .vec .int⟩), (18000011, ⟨true, 0, 3, .vec .int⟩)]⟩, .exit 4⟩)]
def zxV (N : Nat) : List (Nat × Sg) := [(204, g204 N), (119, g119 N), (134, g134 N)]
theorem zp0 (N : Nat) : zaS Try.prog pd.els (zxV N) := ⟨zpD N, ⟨zpU N, ⟨zlf N, trivial⟩⟩⟩
theorem zp1 (N : Nat) : SgOK Try.prog pd.els 131 (g131 N) :=
  zaE zaU (zai (zp0 N)) Try.func131 (zat (by kernel_rfl)) [(K.agg [.int, .int, .ro .row, .ro .pair] rfl), K.int] [(K.agg [.ro .int, .ro .int, .ro .int] rfl), K.int] _ N zxU 4 fun x => by kernel_rfl
def p128 (N : Nat) : Option (Bool × Unit) :=
  let u1 := some ((false, ()))
  let u3 := Fr.zero
  let u2 := [Row.mk u3 u3 u3 u3 u3 u3 u3 u3 (0 : Int) (-1 : Int) (1 : Int)]
  let u4 := [Pr.mk (1 : Int) (0 : Int)]
  Option.bind (p134 N (0 : Int) (2 : Int) u2 u4) fun r0 => Option.bind (p131 N (0 : Int) (2 : Int) u2 u4 (1 : Int)) fun r1 => Option.bind (p136 N (1 : Int) (0 : Int)) fun r2 => cond (hide (eqI (↑r0.1.length : Int) (2 : Int))) (must (ltI (1 : Int) (↑r0.1.length : Int)) (cond (hide (eqI (List.getD r0.1 (1 : Nat) (0 : Int)) (0 : Int))) (cond (hide (eqI (r1.2.1) (0 : Int))) (cond (hide (eqI (↑(List.length (r1.1.1)) : Int) (2 : Int))) (cond (hide (eqI (↑(List.length (Prod.fst (Prod.snd (r1.1.2)))) : Int) (2 : Int))) (must (ltI (0 : Int) (↑(List.length (r1.1.1)) : Int)) (cond (hide (eqI (List.getD (r1.1.1) (0 : Nat) (0 : Int)) (4 : Int))) (must (ltI (0 : Int) (↑(List.length (Prod.fst (Prod.snd (r1.1.2)))) : Int)) (cond (hide (eqI (List.getD (Prod.fst (Prod.snd (r1.1.2))) (0 : Nat) (0 : Int)) (0 : Int))) (cond (hide (eqI (r2.2.1) (0 : Int))) (some ((hide (eqL El.u64 [Fr.a0 r2.1, Fr.a1 r2.1, Fr.a2 r2.1, Fr.a3 r2.1] [(1 : UInt64), (0 : UInt64), (0 : UInt64), (0 : UInt64)]), ()))) u1) u1)) u1)) u1) u1) u1) u1)) u1
def g128 (N : Nat) : Sg := sgK [] [K.bool] fun x => p128 N
def zxW : List (Nat × Head) := [
    ]
def zxX (N : Nat) : List (Nat × Sg) := [(134, g134 N), (131, g131 N), (136, g136 N)]
theorem zp2 (N : Nat) : zaS Try.prog pd.els (zxX N) := ⟨zlf N, ⟨zp1 N, ⟨zvn N, trivial⟩⟩⟩
theorem zvs (N : Nat) : SgOK Try.prog pd.els 128 (g128 N) :=
  zaE zaU (zai (zp2 N)) Try.func128 (zat (by kernel_rfl)) [] [K.bool] _ N zxW 4 fun x => by kernel_rfl
end
section
def p218 (N : Nat) : Option (Fr × Unit) :=
  Option.bind (p173 N (1 : UInt64)) fun rr0 => some ((rr0.1, ()))
def g218 (N : Nat) : Sg := sgK [] [K.fr] fun x => p218 N
def zxY : List (Nat × Head) := [
    ]
def zxZ (N : Nat) : List (Nat × Sg) := [(173, g173 N)]
theorem zp3 (N : Nat) : zaS Try.prog pd.els (zxZ N) := ⟨zkZ N, trivial⟩
theorem zvt (N : Nat) : SgOK Try.prog pd.els 218 (g218 N) :=
  zaE zaU (zai (zp3 N)) Try.func218 (zat (by kernel_rfl)) [] [K.fr] _ N zxY 4 fun x => by kernel_rfl
def zlj (N : Nat) (A_14 : Int -> Row -> (List Int) -> Option (List Row × Int × Unit)) (i7 : Int) (ob0 : Row) (ob1 : List Int) : Option (List Row × Int × Unit) :=
  let u1 := mxI (List.getD ob1 i7.toNat (0 : Int)) (-1 : Int)
  let u2 := (↑((0 : Nat) + (1 : Nat) + (1 : Nat)) : Int)
  let u3 := (↑((0 : Nat) + (1 : Nat)) : Int)
  let u4 := (↑(0 : Nat) : Int)
  cond (hide (ltI i7 (3 : Int))) (must (leI (0 : Int) i7 && ltI i7 (↑(3 : Nat) : Int)) (cond (eqI i7 u4) (must (eqI i7 u4) (A_14 (hide (wr (u4 + (1 : Int)))) (Row.mk (ob0.q0) (ob0.q1) (ob0.q2) (ob0.q3) (ob0.q4) (ob0.q5) (ob0.q6) (ob0.q7) u1 ob0.w1 ob0.w2) ob1)) (cond (eqI i7 u3) (must (eqI i7 u3) (A_14 (hide (wr (u3 + (1 : Int)))) (Row.mk (ob0.q0) (ob0.q1) (ob0.q2) (ob0.q3) (ob0.q4) (ob0.q5) (ob0.q6) (ob0.q7) ob0.w0 u1 ob0.w2) ob1)) (must (eqI i7 u2) (must (eqI i7 u2) (A_14 (hide (wr (u2 + (1 : Int)))) (Row.mk (ob0.q0) (ob0.q1) (ob0.q2) (ob0.q3) (ob0.q4) (ob0.q5) (ob0.q6) (ob0.q7) ob0.w0 ob0.w1 u1) ob1)))))) (some (([ob0], (0 : Int), ())))
def zlk (N n : Nat) (i7 : Int) (ob0 : Row) (ob1 : List Int) : Option (List Row × Int × Unit) :=
  zao (fun A x => zlj N (fun i7 ob0 ob1 => A (((), ((), (i7, ()))), (ob0, (ob1, ())))) x.1.2.2.1 x.2.1 x.2.2.1) n (((), ((), (i7, ()))), (ob0, (ob1, ())))
def zll (N : Nat) (A_10 : Int -> Stp -> Row -> (List Int) -> Option (List Row × Int × Unit)) (i6 : Int) (ob0 : Stp) (ob1 : Row) (ob2 : List Int) : Option (List Row × Int × Unit) :=
  let u1 := cond (eqI i6 (↑((0 : Nat) + (1 : Nat) + (1 : Nat) + (1 : Nat) + (1 : Nat) + (1 : Nat)) : Int)) (none) (cond (eqI i6 (↑((0 : Nat) + (1 : Nat) + (1 : Nat) + (1 : Nat) + (1 : Nat) + (1 : Nat) + (1 : Nat)) : Int)) (none) (must (eqI i6 (↑((0 : Nat) + (1 : Nat) + (1 : Nat) + (1 : Nat) + (1 : Nat) + (1 : Nat) + (1 : Nat) + (1 : Nat)) : Int)) (none)))
  let u2 := (↑((0 : Nat) + (1 : Nat) + (1 : Nat) + (1 : Nat) + (1 : Nat)) : Int)
  let u3 := (↑((0 : Nat) + (1 : Nat) + (1 : Nat) + (1 : Nat)) : Int)
  let u8 := (↑((0 : Nat) + (1 : Nat) + (1 : Nat)) : Int)
  let u4 := eqI i6 u8
  let u11 := (↑((0 : Nat) + (1 : Nat)) : Int)
  let u5 := eqI i6 u11
  let u6 := eqI i6 (↑(0 : Nat) : Int)
  let u9 := eqI i6 u3
  let u10 := eqI i6 u2
  let u7 := cond u9 (none) (cond u10 (none) u1)
  cond (hide (ltI i6 (5 : Int))) (cond u6 (must u6 (cond u6 (A_10 (hide (wr ((↑(0 : Nat) : Int) + (1 : Int)))) (ob0) (Row.mk (ob0.q0) (ob1.q1) (ob1.q2) (ob1.q3) (ob1.q4) (ob1.q5) (ob1.q6) (ob1.q7) ob1.w0 ob1.w1 ob1.w2) ob2) (cond u5 (none) (cond u4 (none) u7)))) (cond u5 (must u5 (cond u6 (none) (cond u5 (A_10 (hide (wr (u11 + (1 : Int)))) (ob0) (Row.mk (ob1.q0) (ob0.q1) (ob1.q2) (ob1.q3) (ob1.q4) (ob1.q5) (ob1.q6) (ob1.q7) ob1.w0 ob1.w1 ob1.w2) ob2) (cond u4 (none) u7)))) (cond u4 (must u4 (cond u6 (none) (cond u5 (none) (cond u4 (A_10 (hide (wr (u8 + (1 : Int)))) (ob0) (Row.mk (ob1.q0) (ob1.q1) (ob0.q2) (ob1.q3) (ob1.q4) (ob1.q5) (ob1.q6) (ob1.q7) ob1.w0 ob1.w1 ob1.w2) ob2) u7)))) (cond u9 (must u9 (cond u6 (none) (cond u5 (none) (cond u4 (none) (cond u9 (A_10 (hide (wr (u3 + (1 : Int)))) (ob0) (Row.mk (ob1.q0) (ob1.q1) (ob1.q2) (ob0.q3) (ob1.q4) (ob1.q5) (ob1.q6) (ob1.q7) ob1.w0 ob1.w1 ob1.w2) ob2) (cond u10 (none) u1)))))) (must u10 (must u10 (cond u6 (none) (cond u5 (none) (cond u4 (none) (cond u9 (none) (cond u10 (A_10 (hide (wr (u2 + (1 : Int)))) (ob0) (Row.mk (ob1.q0) (ob1.q1) (ob1.q2) (ob1.q3) (ob0.q4) (ob1.q5) (ob1.q6) (ob1.q7) ob1.w0 ob1.w1 ob1.w2) ob2) u1))))))))))) (zlk N N (0 : Int) (ob1) ob2)
def zlm (N n : Nat) (i6 : Int) (ob0 : Stp) (ob1 : Row) (ob2 : List Int) : Option (List Row × Int × Unit) :=
  zao (fun A x => zll N (fun i6 ob0 ob1 ob2 => A (((), ((), ((), (i6, ())))), (ob0, (ob1, (ob2, ()))))) x.1.2.2.2.1 x.2.1 x.2.2.1 x.2.2.2.1) n (((), ((), ((), (i6, ())))), (ob0, (ob1, (ob2, ()))))
def p197 (N : Nat) (s0 : Stp) : Option (List Row × Int × Unit) :=
  let u1 := Fr.zero
  let u2 := zlm N N (0 : Int) (s0) (Row.mk u1 u1 u1 u1 u1 u1 u1 u1 (-1 : Int) (-1 : Int) (-1 : Int)) ([Stp.v0 s0, Stp.v1 s0, Stp.v2 s0])
  let u3 := hide (eqI s0.kind (1 : Int))
  let u4 := hide (eqI s0.kind (2 : Int))
  let u5 := hide (eqI s0.kind (3 : Int))
  let u6 := hide (eqI s0.kind (4 : Int))
  let u7 := hide (eqI s0.kind (7 : Int))
  let u8 := hide (eqI s0.kind (5 : Int))
  let u9 := some (([], (11 : Int), ()))
  let u10 := some (([], (0 : Int), ()))
  cond u3 (cond u3 u10 (cond u4 u2 (cond u5 (Option.bind (p218 N) fun rr7 => some (([Row.mk u1 u1 u1 u1 u1 (rr7.1) u1 u1 s0.v0 (-1 : Int) (-1 : Int)], (0 : Int), ()))) (cond u6 (Option.bind (p218 N) fun rr6 => some (([Row.mk u1 u1 u1 u1 u1 u1 (rr6.1) u1 s0.v0 (-1 : Int) s0.v2], (0 : Int), ()))) (cond u7 (Option.bind (p218 N) fun rr5 => some (([Row.mk u1 (rr5.1) u1 u1 u1 u1 u1 u1 s0.v0 (-1 : Int) (-1 : Int)], (0 : Int), ()))) (cond u8 (Option.bind (p218 N) fun rr4 => some (([Row.mk u1 u1 u1 u1 u1 u1 u1 (rr4.1) s0.v0 s0.v1 (-1 : Int), Row.mk u1 u1 u1 u1 u1 u1 u1 u1 s0.v2 (-1 : Int) (-1 : Int)], (0 : Int), ()))) u9)))))) (cond (hide (eqI s0.kind (6 : Int))) u10 (cond u4 u2 (cond u5 (Option.bind (p218 N) fun rr3 => some (([Row.mk u1 u1 u1 u1 u1 (rr3.1) u1 u1 s0.v0 (-1 : Int) (-1 : Int)], (0 : Int), ()))) (cond u6 (Option.bind (p218 N) fun rr2 => some (([Row.mk u1 u1 u1 u1 u1 u1 (rr2.1) u1 s0.v0 (-1 : Int) s0.v2], (0 : Int), ()))) (cond u7 (Option.bind (p218 N) fun rr1 => some (([Row.mk u1 (rr1.1) u1 u1 u1 u1 u1 u1 s0.v0 (-1 : Int) (-1 : Int)], (0 : Int), ()))) (cond u8 (Option.bind (p218 N) fun rr0 => some (([Row.mk u1 u1 u1 u1 u1 u1 u1 (rr0.1) s0.v0 s0.v1 (-1 : Int), Row.mk u1 u1 u1 u1 u1 u1 u1 u1 s0.v2 (-1 : Int) (-1 : Int)], (0 : Int), ()))) u9))))))
def g197 (N : Nat) : Sg := sgK [(K.st .step)] [(K.ro .row), K.int] fun x => p197 N x.1
def zx0 : List (Nat × Head) := [
    (10, ⟨⟨93, [(1, .u (.c (.ptr0 11000000 0))), (4, .u (.c (.ptr0 11000001 0))), (5, .u (.c (.ptr0 11000002 0))), (6, .u (.c (.int)))], [(11000000, ⟨false, 0, 112, .st .step⟩), (11000001, ⟨false, 0, 116, .st .row⟩), (11000002, ⟨false, 3, 110, .vec .int⟩)]⟩, .exit 1⟩),
    (14, ⟨⟨93, [(4, .u (.c (.ptr0 15000000 0))), (5, .u (.c (.ptr0 15000001 0))), (7, .u (.c (.int)))], [(15000000, ⟨false, 0, 116, .st .row⟩), (15000001, ⟨false, 3, 110, .vec .int⟩)]⟩, .exit 3⟩)]
def zx1 (N : Nat) : List (Nat × Sg) := [(218, g218 N)]
theorem zp4 (N : Nat) : zaS Try.prog pd.els (zx1 N) := ⟨zvt N, trivial⟩
theorem zvu (N : Nat) : SgOK Try.prog pd.els 197 (g197 N) :=
  zaE zaU (zai (zp4 N)) Try.func197 (zat (by kernel_rfl)) [(K.st .step)] [(K.ro .row), K.int] _ N zx0 4 fun x => by kernel_rfl
end
section
structure F5 where
  (k0 k1 k2 k3 k4 : Fr)
def F5.l (x : F5) : List Fr := [x.k0, x.k1, x.k2, x.k3, x.k4]
def F5.of? (l : List Fr) : Option F5 := match l with
  | [a, b, c, d, e] => some ⟨a, b, c, d, e⟩
  | _ => none
theorem F5.of_ok {l : List Fr} {x : F5} (h : F5.of? l = some x) : l = x.l := by
  unfold F5.of? at h
  split at h
  . cases h; rfl
  . cases h
def K.bl3 : K := ⟨TCs [.int, .ro .row, .ro .row] × Nat, fun x => .agg (zii [.int, .ro .row, .ro .row] x.1 ++ [.len x.2]), fun u => match u with
  | .agg xs => match zea [.int, .ro .row, .ro .row] (xs.take 3), xs.drop 3 with
    | some y, [.len n] => some (y, n)
    | _, _ => none
  | _ => none, fun u x h => by
  split at h
  . rename_i xs
    split at h
    . rename_i y n h1 h2
      cases h
      have h3 := zhF (l := [.int, .ro .row, .ro .row]) rfl h1
      rw [← h3, ← h2, List.take_append_drop]
    . cases h
  . cases h⟩
end
end Go.Proofs.Ytgimohchocjgcaa.V
