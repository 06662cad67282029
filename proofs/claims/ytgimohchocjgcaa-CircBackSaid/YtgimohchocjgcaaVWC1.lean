import Derived.Test.YtgimohchocjgcaaVWA1
import Derived.KernelRfl
import Derived.Test.YtgimohchocjgcaaVME
set_option linter.unusedVariables false
set_option linter.unusedSimpArgs false
namespace Go.Proofs.Ytgimohchocjgcaa.V
section
def zmt (N : Nat) (A_25 : (List Pr) -> Int -> Int -> (List UInt8) -> Option (List UInt8 × Int × Unit)) (t81 : List Pr) (t82 t83 : Int) (out5o : List UInt8) : Option (List UInt8 × Int × Unit) :=
  cond (hide (ltI t83 t82)) (must (leI (0 : Int) t83 && ltI t83 (↑t81.length : Int)) (must (leN ((List.length out5o + List.length [hide (u8I (Pr.x (List.getD t81 t83.toNat (Pr.mk (0 : Int) (0 : Int))))), hide (u8I (Pr.y (List.getD t81 t83.toNat (Pr.mk (0 : Int) (0 : Int)))))]) * (1 : Nat)) (140737488355328 : Nat)) (A_25 t81 t82 (hide (wr (t83 + (1 : Int)))) (out5o ++ [hide (u8I (Pr.x (List.getD t81 t83.toNat (Pr.mk (0 : Int) (0 : Int))))), hide (u8I (Pr.y (List.getD t81 t83.toNat (Pr.mk (0 : Int) (0 : Int)))))])))) (some ((out5o, (0 : Int), ())))
def zmu (N n : Nat) (t81 : List Pr) (t82 t83 : Int) (out5o : List UInt8) : Option (List UInt8 × Int × Unit) :=
  zar (fun A x => zmt N (fun t81 t82 t83 out5o => A (((), (t81, (t82, (t83, ())))), (out5o, ()))) x.1.2.1 x.1.2.2.1 x.1.2.2.2.1 x.2.1) n (((), (t81, (t82, (t83, ())))), (out5o, ()))
def zmv (N : Nat) (A_6 : (List Row) -> Int -> Int -> Int -> Int -> (List Row) -> (List Pr) -> (List UInt8) -> Option (List UInt8 × Int × Unit)) (A_19 : (List Row) -> Int -> Int -> (List Int) -> Int -> Int -> Int -> (List Row) -> (List Pr) -> (List UInt8) -> Option (List UInt8 × Int × Unit)) (t37 : List Row) (t38 t39 : Int) (t69 : List Int) (t70 ob0_0 ob0_1 : Int) (ob0_2 : List Row) (ob0_3 : List Pr) (out5o : List UInt8) : Option (List UInt8 × Int × Unit) :=
  let u1 := u8I (List.getD t69 t70.toNat (0 : Int))
  cond (hide (ltI t70 (3 : Int))) (must (leI (0 : Int) t70 && (ltI t70 (↑(3 : Nat) : Int) && ltI t70 (↑t69.length : Int))) (must (leN ((List.length out5o + List.length [hide u1]) * (1 : Nat)) (140737488355328 : Nat)) (A_19 t37 t38 t39 t69 (hide (wr (t70 + (1 : Int)))) ob0_0 ob0_1 ob0_2 ob0_3 (out5o ++ [hide u1])))) (A_6 t37 t38 (hide (wr (t39 + (1 : Int)))) ob0_0 ob0_1 ob0_2 ob0_3 out5o)
def zmw (N : Nat) (A_6 : (List Row) -> Int -> Int -> Int -> Int -> (List Row) -> (List Pr) -> (List UInt8) -> Option (List UInt8 × Int × Unit)) (n : Nat) (t37 : List Row) (t38 t39 : Int) (t69 : List Int) (t70 ob0_0 ob0_1 : Int) (ob0_2 : List Row) (ob0_3 : List Pr) (out5o : List UInt8) : Option (List UInt8 × Int × Unit) :=
  zar (fun A x => zmv N A_6 (fun t37 t38 t39 t69 t70 ob0_0 ob0_1 ob0_2 ob0_3 out5o => A (((), ((), (t37, (t38, (t39, (t69, (t70, ()))))))), ((ob0_0, (ob0_1, (ob0_2, (ob0_3, ())))), (out5o, ())))) x.1.2.2.1 x.1.2.2.2.1 x.1.2.2.2.2.1 x.1.2.2.2.2.2.1 x.1.2.2.2.2.2.2.1 x.2.1.1 x.2.1.2.1 x.2.1.2.2.1 x.2.1.2.2.2.1 x.2.2.1) n (((), ((), (t37, (t38, (t39, (t69, (t70, ()))))))), ((ob0_0, (ob0_1, (ob0_2, (ob0_3, ())))), (out5o, ())))
def zmx (N : Nat) (A_6 : (List Row) -> Int -> Int -> Int -> Int -> (List Row) -> (List Pr) -> (List UInt8) -> Option (List UInt8 × Int × Unit)) (A_11 : UInt8 -> (List Row) -> Int -> Int -> (List Fr) -> Int -> Int -> Int -> (List Row) -> (List Pr) -> (List UInt8) -> Row -> (List UInt8) -> Option (List UInt8 × Int × Unit)) (marks8 : UInt8) (t37 : List Row) (t38 t39 : Int) (t44 : List Fr) (t45 ob0_0 ob0_1 : Int) (ob0_2 : List Row) (ob0_3 : List Pr) (out5o : List UInt8) (ob2 : Row) (qs9o : List UInt8) : Option (List UInt8 × Int × Unit) :=
  let u1 := List.getD t44 t45.toNat (Fr.zero)
  let u2 := hide (wr (t45 + (1 : Int)))
  cond (hide (ltI t45 (8 : Int))) (must (leI (0 : Int) t45 && (ltI t45 (↑(8 : Nat) : Int) && ltI t45 (↑t44.length : Int))) (cond (hide !eqL El.u64 [Fr.a0 u1, Fr.a1 u1, Fr.a2 u1, Fr.a3 u1] [(0 : UInt64), (0 : UInt64), (0 : UInt64), (0 : UInt64)]) (Option.bind (p124 N (u1)) fun rr0 => must (leN ((List.length qs9o + List.length rr0.1) * (1 : Nat)) (140737488355328 : Nat)) (A_11 (hide (marks8 ||| hide (shl8 (1 : UInt8) (UInt64.toNat (hide (u64I t45)))))) t37 t38 t39 t44 u2 ob0_0 ob0_1 ob0_2 ob0_3 out5o (ob2) (qs9o ++ Prod.fst rr0))) (A_11 marks8 t37 t38 t39 t44 u2 ob0_0 ob0_1 ob0_2 ob0_3 out5o (ob2) qs9o))) (must (leN ((List.length out5o + List.length [marks8]) * (1 : Nat)) (140737488355328 : Nat)) (must (leN ((List.length (out5o ++ [marks8]) + List.length qs9o) * (1 : Nat)) (140737488355328 : Nat)) (zmw N A_6 N t37 t38 t39 ([Row.w0 ob2, Row.w1 ob2, Row.w2 ob2]) (0 : Int) ob0_0 ob0_1 ob0_2 ob0_3 (out5o ++ [marks8] ++ qs9o))))
def zmy (N : Nat) (A_6 : (List Row) -> Int -> Int -> Int -> Int -> (List Row) -> (List Pr) -> (List UInt8) -> Option (List UInt8 × Int × Unit)) (n : Nat) (marks8 : UInt8) (t37 : List Row) (t38 t39 : Int) (t44 : List Fr) (t45 ob0_0 ob0_1 : Int) (ob0_2 : List Row) (ob0_3 : List Pr) (out5o : List UInt8) (ob2 : Row) (qs9o : List UInt8) : Option (List UInt8 × Int × Unit) :=
  zar (fun A x => zmx N A_6 (fun marks8 t37 t38 t39 t44 t45 ob0_0 ob0_1 ob0_2 ob0_3 out5o ob2 qs9o => A (((), ((), ((), (marks8, ((), (t37, (t38, (t39, (t44, (t45, ())))))))))), ((ob0_0, (ob0_1, (ob0_2, (ob0_3, ())))), (out5o, (ob2, (qs9o, ())))))) x.1.2.2.2.1 x.1.2.2.2.2.2.1 x.1.2.2.2.2.2.2.1 x.1.2.2.2.2.2.2.2.1 x.1.2.2.2.2.2.2.2.2.1 x.1.2.2.2.2.2.2.2.2.2.1 x.2.1.1 x.2.1.2.1 x.2.1.2.2.1 x.2.1.2.2.2.1 x.2.2.1 x.2.2.2.1 x.2.2.2.2.1) n (((), ((), ((), (marks8, ((), (t37, (t38, (t39, (t44, (t45, ())))))))))), ((ob0_0, (ob0_1, (ob0_2, (ob0_3, ())))), (out5o, (ob2, (qs9o, ())))))
def zri (N : Nat) (A_6 : (List Row) -> Int -> Int -> Int -> Int -> (List Row) -> (List Pr) -> (List UInt8) -> Option (List UInt8 × Int × Unit)) (t37 : List Row) (t38 t39 ob0_0 ob0_1 : Int) (ob0_2 : List Row) (ob0_3 : List Pr) (out5o : List UInt8) : Option (List UInt8 × Int × Unit) :=
  let u1 := List.getD t37 t39.toNat zrow
  let u2 := Row.q0 u1
  let u3 := Row.q1 u1
  let u4 := Row.q2 u1
  let u5 := Row.q3 u1
  let u6 := Row.q4 u1
  let u7 := Row.q5 u1
  let u8 := Row.q6 u1
  let u9 := Row.q7 u1
  cond (hide (ltI t39 t38)) (must (leI (0 : Int) t39 && ltI t39 (↑t37.length : Int)) (zmy N A_6 N (0 : UInt8) t37 t38 t39 ([Fr.mk (Fr.a0 u2) (Fr.a1 u2) (Fr.a2 u2) (Fr.a3 u2), Fr.mk (Fr.a0 u3) (Fr.a1 u3) (Fr.a2 u3) (Fr.a3 u3), Fr.mk (Fr.a0 u4) (Fr.a1 u4) (Fr.a2 u4) (Fr.a3 u4), Fr.mk (Fr.a0 u5) (Fr.a1 u5) (Fr.a2 u5) (Fr.a3 u5), Fr.mk (Fr.a0 u6) (Fr.a1 u6) (Fr.a2 u6) (Fr.a3 u6), Fr.mk (Fr.a0 u7) (Fr.a1 u7) (Fr.a2 u7) (Fr.a3 u7), Fr.mk (Fr.a0 u8) (Fr.a1 u8) (Fr.a2 u8) (Fr.a3 u8), Fr.mk (Fr.a0 u9) (Fr.a1 u9) (Fr.a2 u9) (Fr.a3 u9)]) (0 : Int) ob0_0 ob0_1 ob0_2 ob0_3 out5o (Row.mk (Fr.mk (Fr.a0 u2) (Fr.a1 u2) (Fr.a2 u2) (Fr.a3 u2)) (Fr.mk (Fr.a0 u3) (Fr.a1 u3) (Fr.a2 u3) (Fr.a3 u3)) (Fr.mk (Fr.a0 u4) (Fr.a1 u4) (Fr.a2 u4) (Fr.a3 u4)) (Fr.mk (Fr.a0 u5) (Fr.a1 u5) (Fr.a2 u5) (Fr.a3 u5)) (Fr.mk (Fr.a0 u6) (Fr.a1 u6) (Fr.a2 u6) (Fr.a3 u6)) (Fr.mk (Fr.a0 u7) (Fr.a1 u7) (Fr.a2 u7) (Fr.a3 u7)) (Fr.mk (Fr.a0 u8) (Fr.a1 u8) (Fr.a2 u8) (Fr.a3 u8)) (Fr.mk (Fr.a0 u9) (Fr.a1 u9) (Fr.a2 u9) (Fr.a3 u9)) (Row.w0 u1) (Row.w1 u1) (Row.w2 u1)) [])) (zmu N N ob0_3 ((↑ob0_3.length : Int)) (0 : Int) out5o)
def zrj (N n : Nat) (t37 : List Row) (t38 t39 ob0_0 ob0_1 : Int) (ob0_2 : List Row) (ob0_3 : List Pr) (out5o : List UInt8) : Option (List UInt8 × Int × Unit) :=
  zar (fun A x => zri N (fun t37 t38 t39 ob0_0 ob0_1 ob0_2 ob0_3 out5o => A (((), ((), (t37, (t38, (t39, ()))))), ((ob0_0, (ob0_1, (ob0_2, (ob0_3, ())))), (out5o, ())))) x.1.2.2.1 x.1.2.2.2.1 x.1.2.2.2.2.1 x.2.1.1 x.2.1.2.1 x.2.1.2.2.1 x.2.1.2.2.2.1 x.2.2.1) n (((), ((), (t37, (t38, (t39, ()))))), ((ob0_0, (ob0_1, (ob0_2, (ob0_3, ())))), (out5o, ())))
def p139 (N : Nat) (c0 v1 : Int) (v2 : List Row) (v3 : List Pr) : Option (List UInt8 × Int × Unit) :=
  Option.bind (p119 N c0 v1 v2 v3) fun rr0 => cond (hide !eqI rr0.1 (0 : Int)) (some (([], Prod.fst rr0, ()))) (zrj N N v2 ((↑v2.length : Int)) (0 : Int) c0 v1 v2 v3 ([hide (u8I c0), hide (u8I v1), hide (u8I (↑v2.length : Int)), hide (u8I (↑v3.length : Int))]))
def g139 (N : Nat) : Sg := sgK [(K.agg [.int, .int, .ro .row, .ro .pair] rfl)] [(K.ro .u8), K.int] fun x => p139 N x.1.1 x.1.2.1 x.1.2.2.1 x.1.2.2.2.1
def zzY : List (Nat × Head) := [
    (6, ⟨⟨98, [(1, .u (.c (.ptr0 7000000 0))), (5, .u (.c (.row 7000001))), (37, .u (.c (.ro .row))), (38, .u (.c (.int))), (39, .u (.c (.int)))], [(7000000, ⟨false, 0, 80, .lit [.int, .int, .ro .row, .ro .pair]⟩), (7000001, ⟨true, 0, 5, .vec .u8⟩)]⟩, .exit 0⟩),
    (25, ⟨⟨98, [(5, .u (.c (.row 26000000))), (81, .u (.c (.ro .pair))), (82, .u (.c (.int))), (83, .u (.c (.int)))], [(26000000, ⟨true, 0, 5, .vec .u8⟩)]⟩, .exit 6⟩),
    (11, ⟨⟨98, [(1, .u (.c (.ptr0 12000000 0))), (5, .u (.c (.row 12000001))), (7, .u (.c (.ptr0 12000002 0))), (8, .u (.c (.u8))), (9, .u (.c (.row 12000003))), (37, .u (.c (.ro .row))), (38, .u (.c (.int))), (39, .u (.c (.int))), (44, .u (.vec .fr)), (45, .u (.c (.int)))], [(12000000, ⟨false, 0, 80, .lit [.int, .int, .ro .row, .ro .pair]⟩), (12000001, ⟨true, 0, 5, .vec .u8⟩), (12000002, ⟨false, 0, 116, .st .row⟩), (12000003, ⟨true, 0, 5, .vec .u8⟩)]⟩, .exit 2⟩),
    (19, ⟨⟨98, [(1, .u (.c (.ptr0 20000000 0))), (5, .u (.c (.row 20000001))), (37, .u (.c (.ro .row))), (38, .u (.c (.int))), (39, .u (.c (.int))), (69, .u (.vec .int)), (70, .u (.c (.int)))], [(20000000, ⟨false, 0, 80, .lit [.int, .int, .ro .row, .ro .pair]⟩), (20000001, ⟨true, 0, 5, .vec .u8⟩)]⟩, .exit 4⟩)]
def zzZ (N : Nat) : List (Nat × Sg) := [(119, g119 N), (124, g124 N)]
theorem zrk (N : Nat) : zaQ Try.prog pd.els (zzZ N) := ⟨zrh N, ⟨zw7 N, trivial⟩⟩
theorem zrl (N : Nat) : SgOK Try.prog pd.els 139 (g139 N) :=
  zaO zaU (zaj (zrk N)) Try.func139 (zas (by kernel_rfl)) [(K.agg [.int, .int, .ro .row, .ro .pair] rfl)] [(K.ro .u8), K.int] _ N zzY 4 fun x => by kernel_rfl
end
section
def p218 (N : Nat) : Option (Fr × Unit) :=
  Option.bind (p173 N (1 : UInt64)) fun rr0 => some ((rr0.1, ()))
def g218 (N : Nat) : Sg := sgK [] [K.fr] fun x => p218 N
def zz0 : List (Nat × Head) := [
    ]
def zz1 (N : Nat) : List (Nat × Sg) := [(173, g173 N)]
theorem zrm (N : Nat) : zaQ Try.prog pd.els (zz1 N) := ⟨zmh N, trivial⟩
theorem zxe (N : Nat) : SgOK Try.prog pd.els 218 (g218 N) :=
  zaO zaU (zaj (zrm N)) Try.func218 (zas (by kernel_rfl)) [] [K.fr] _ N zz0 4 fun x => by kernel_rfl
def zmz (N : Nat) (A_14 : Int -> Row -> (List Int) -> Option (List Row × Int × Unit)) (i7 : Int) (ob0 : Row) (ob1 : List Int) : Option (List Row × Int × Unit) :=
  let u1 := mxI (List.getD ob1 i7.toNat (0 : Int)) (-1 : Int)
  let u2 := (↑((0 : Nat) + (1 : Nat) + (1 : Nat)) : Int)
  let u3 := (↑((0 : Nat) + (1 : Nat)) : Int)
  let u4 := (↑(0 : Nat) : Int)
  cond (hide (ltI i7 (3 : Int))) (must (leI (0 : Int) i7 && ltI i7 (↑(3 : Nat) : Int)) (cond (eqI i7 u4) (must (eqI i7 u4) (A_14 (hide (wr (u4 + (1 : Int)))) (Row.mk (ob0.q0) (ob0.q1) (ob0.q2) (ob0.q3) (ob0.q4) (ob0.q5) (ob0.q6) (ob0.q7) u1 ob0.w1 ob0.w2) ob1)) (cond (eqI i7 u3) (must (eqI i7 u3) (A_14 (hide (wr (u3 + (1 : Int)))) (Row.mk (ob0.q0) (ob0.q1) (ob0.q2) (ob0.q3) (ob0.q4) (ob0.q5) (ob0.q6) (ob0.q7) ob0.w0 u1 ob0.w2) ob1)) (must (eqI i7 u2) (must (eqI i7 u2) (A_14 (hide (wr (u2 + (1 : Int)))) (Row.mk (ob0.q0) (ob0.q1) (ob0.q2) (ob0.q3) (ob0.q4) (ob0.q5) (ob0.q6) (ob0.q7) ob0.w0 ob0.w1 u1) ob1)))))) (some (([ob0], (0 : Int), ())))
def zmA (N n : Nat) (i7 : Int) (ob0 : Row) (ob1 : List Int) : Option (List Row × Int × Unit) :=
  zar (fun A x => zmz N (fun i7 ob0 ob1 => A (((), ((), (i7, ()))), (ob0, (ob1, ())))) x.1.2.2.1 x.2.1 x.2.2.1) n (((), ((), (i7, ()))), (ob0, (ob1, ())))
def zmB (N : Nat) (A_10 : Int -> Stp -> Row -> (List Int) -> Option (List Row × Int × Unit)) (i6 : Int) (ob0 : Stp) (ob1 : Row) (ob2 : List Int) : Option (List Row × Int × Unit) :=
  let u1 := cond (eqI i6 (↑((0 : Nat) + (1 : Nat) + (1 : Nat) + (1 : Nat) + (1 : Nat) + (1 : Nat)) : Int)) (none) (cond (eqI i6 (↑((0 : Nat) + (1 : Nat) + (1 : Nat) + (1 : Nat) + (1 : Nat) + (1 : Nat) + (1 : Nat)) : Int)) (none) (must (eqI i6 (↑((0 : Nat) + (1 : Nat) + (1 : Nat) + (1 : Nat) + (1 : Nat) + (1 : Nat) + (1 : Nat) + (1 : Nat)) : Int)) (none)))
  let u2 := (↑((0 : Nat) + (1 : Nat) + (1 : Nat) + (1 : Nat) + (1 : Nat)) : Int)
  let u3 := (↑((0 : Nat) + (1 : Nat) + (1 : Nat) + (1 : Nat)) : Int)
  let u8 := (↑((0 : Nat) + (1 : Nat) + (1 : Nat)) : Int)
  let u4 := eqI i6 u8
  let u11 := (↑((0 : Nat) + (1 : Nat)) : Int)
  let u5 := eqI i6 u11
  let u6 := eqI i6 (↑(0 : Nat) : Int)
  let u9 := eqI i6 u3
  let u10 := eqI i6 u2
  let u7 := cond u9 (none) (cond u10 (none) u1)
  cond (hide (ltI i6 (5 : Int))) (cond u6 (must u6 (cond u6 (A_10 (hide (wr ((↑(0 : Nat) : Int) + (1 : Int)))) (ob0) (Row.mk (ob0.q0) (ob1.q1) (ob1.q2) (ob1.q3) (ob1.q4) (ob1.q5) (ob1.q6) (ob1.q7) ob1.w0 ob1.w1 ob1.w2) ob2) (cond u5 (none) (cond u4 (none) u7)))) (cond u5 (must u5 (cond u6 (none) (cond u5 (A_10 (hide (wr (u11 + (1 : Int)))) (ob0) (Row.mk (ob1.q0) (ob0.q1) (ob1.q2) (ob1.q3) (ob1.q4) (ob1.q5) (ob1.q6) (ob1.q7) ob1.w0 ob1.w1 ob1.w2) ob2) (cond u4 (none) u7)))) (cond u4 (must u4 (cond u6 (none) (cond u5 (none) (cond u4 (A_10 (hide (wr (u8 + (1 : Int)))) (ob0) (Row.mk (ob1.q0) (ob1.q1) (ob0.q2) (ob1.q3) (ob1.q4) (ob1.q5) (ob1.q6) (ob1.q7) ob1.w0 ob1.w1 ob1.w2) ob2) u7)))) (cond u9 (must u9 (cond u6 (none) (cond u5 (none) (cond u4 (none) (cond u9 (A_10 (hide (wr (u3 + (1 : Int)))) (ob0) (Row.mk (ob1.q0) (ob1.q1) (ob1.q2) (ob0.q3) (ob1.q4) (ob1.q5) (ob1.q6) (ob1.q7) ob1.w0 ob1.w1 ob1.w2) ob2) (cond u10 (none) u1)))))) (must u10 (must u10 (cond u6 (none) (cond u5 (none) (cond u4 (none) (cond u9 (none) (cond u10 (A_10 (hide (wr (u2 + (1 : Int)))) (ob0) (Row.mk (ob1.q0) (ob1.q1) (ob1.q2) (ob1.q3) (ob0.q4) (ob1.q5) (ob1.q6) (ob1.q7) ob1.w0 ob1.w1 ob1.w2) ob2) u1))))))))))) (zmA N N (0 : Int) (ob1) ob2)
def zmC (N n : Nat) (i6 : Int) (ob0 : Stp) (ob1 : Row) (ob2 : List Int) : Option (List Row × Int × Unit) :=
  zar (fun A x => zmB N (fun i6 ob0 ob1 ob2 => A (((), ((), ((), (i6, ())))), (ob0, (ob1, (ob2, ()))))) x.1.2.2.2.1 x.2.1 x.2.2.1 x.2.2.2.1) n (((), ((), ((), (i6, ())))), (ob0, (ob1, (ob2, ()))))
def p197 (N : Nat) (s0 : Stp) : Option (List Row × Int × Unit) :=
  let u1 := Fr.zero
  let u2 := zmC N N (0 : Int) (s0) (Row.mk u1 u1 u1 u1 u1 u1 u1 u1 (-1 : Int) (-1 : Int) (-1 : Int)) ([Stp.v0 s0, Stp.v1 s0, Stp.v2 s0])
  let u3 := hide (eqI s0.kind (1 : Int))
  let u4 := hide (eqI s0.kind (2 : Int))
  let u5 := hide (eqI s0.kind (3 : Int))
  let u6 := hide (eqI s0.kind (4 : Int))
  let u7 := hide (eqI s0.kind (7 : Int))
  let u8 := hide (eqI s0.kind (5 : Int))
  let u9 := some (([], (11 : Int), ()))
  let u10 := some (([], (0 : Int), ()))
  cond u3 (cond u3 u10 (cond u4 u2 (cond u5 (Option.bind (p218 N) fun rr7 => some (([Row.mk u1 u1 u1 u1 u1 (rr7.1) u1 u1 s0.v0 (-1 : Int) (-1 : Int)], (0 : Int), ()))) (cond u6 (Option.bind (p218 N) fun rr6 => some (([Row.mk u1 u1 u1 u1 u1 u1 (rr6.1) u1 s0.v0 (-1 : Int) s0.v2], (0 : Int), ()))) (cond u7 (Option.bind (p218 N) fun rr5 => some (([Row.mk u1 (rr5.1) u1 u1 u1 u1 u1 u1 s0.v0 (-1 : Int) (-1 : Int)], (0 : Int), ()))) (cond u8 (Option.bind (p218 N) fun rr4 => some (([Row.mk u1 u1 u1 u1 u1 u1 u1 (rr4.1) s0.v0 s0.v1 (-1 : Int), Row.mk u1 u1 u1 u1 u1 u1 u1 u1 s0.v2 (-1 : Int) (-1 : Int)], (0 : Int), ()))) u9)))))) (cond (hide (eqI s0.kind (6 : Int))) u10 (cond u4 u2 (cond u5 (Option.bind (p218 N) fun rr3 => some (([Row.mk u1 u1 u1 u1 u1 (rr3.1) u1 u1 s0.v0 (-1 : Int) (-1 : Int)], (0 : Int), ()))) (cond u6 (Option.bind (p218 N) fun rr2 => some (([Row.mk u1 u1 u1 u1 u1 u1 (rr2.1) u1 s0.v0 (-1 : Int) s0.v2], (0 : Int), ()))) (cond u7 (Option.bind (p218 N) fun rr1 => some (([Row.mk u1 (rr1.1) u1 u1 u1 u1 u1 u1 s0.v0 (-1 : Int) (-1 : Int)], (0 : Int), ()))) (cond u8 (Option.bind (p218 N) fun rr0 => some (([Row.mk u1 u1 u1 u1 u1 u1 u1 (rr0.1) s0.v0 s0.v1 (-1 : Int), Row.mk u1 u1 u1 u1 u1 u1 u1 u1 s0.v2 (-1 : Int) (-1 : Int)], (0 : Int), ()))) u9))))))
def g197 (N : Nat) : Sg := sgK [(K.st .step)] [(K.ro .row), K.int] fun x => p197 N x.1
def zz2 : List (Nat × Head) := [
    (10, ⟨⟨93, [(1, .u (.c (.ptr0 11000000 0))), (4, .u (.c (.ptr0 11000001 0))), (5, .u (.c (.ptr0 11000002 0))), (6, .u (.c (.int)))], [(11000000, ⟨false, 0, 112, .st .step⟩), (11000001, ⟨false, 0, 116, .st .row⟩), (11000002, ⟨false, 3, 110, .vec .int⟩)]⟩, .exit 1⟩),
    (14, ⟨⟨93, [(4, .u (.c (.ptr0 15000000 0))), (5, .u (.c (.ptr0 15000001 0))), (7, .u (.c (.int)))], [(15000000, ⟨false, 0, 116, .st .row⟩), (15000001, ⟨false, 3, 110, .vec .int⟩)]⟩, .exit 3⟩)]
def zz3 (N : Nat) : List (Nat × Sg) := [(218, g218 N)]
theorem zrn (N : Nat) : zaQ Try.prog pd.els (zz3 N) := ⟨zxe N, trivial⟩
theorem zxf (N : Nat) : SgOK Try.prog pd.els 197 (g197 N) :=
  zaO zaU (zaj (zrn N)) Try.func197 (zas (by kernel_rfl)) [(K.st .step)] [(K.ro .row), K.int] _ N zz2 4 fun x => by kernel_rfl
end
section
structure F5 where
  (k0 k1 k2 k3 k4 : Fr)
def F5.l (x : F5) : List Fr := [x.k0, x.k1, x.k2, x.k3, x.k4]
def F5.of? (l : List Fr) : Option F5 := match l with
  | [a, b, c, d, e] => some ⟨a, b, c, d, e⟩
  | _ => none
theorem F5.of_ok {l : List Fr} {x : F5} (h : F5.of? l = some x) : l = x.l := by
  unfold F5.of? at h
  split at h
  . cases h; rfl
  . cases h
def K.bl3 : K := ⟨TCs [.int, .ro .row, .ro .row] × Nat, fun x => .agg (zi7 [.int, .ro .row, .ro .row] x.1 ++ [.len x.2]), fun u => match u with
  | .agg xs => match zey [.int, .ro .row, .ro .row] (xs.take 3), xs.drop 3 with
    | some y, [.len n] => some (y, n)
    | _, _ => none
  | _ => none, fun u x h => by
  split at h
  . rename_i xs
    split at h
    . rename_i y n h1 h2
      cases h
      have h3 := zim (l := [.int, .ro .row, .ro .row]) rfl h1
      rw [← h3, ← h2, List.take_append_drop]
    . cases h
  . cases h⟩
end
section
def zmD (N : Nat) (A_10 : Int -> Int -> Stp -> (List Bool) -> Option (Int × Unit)) (vars1 i7 : Int) (ob0 : Stp) (ob1 : List Bool) : Option (Int × Unit) :=
  let u1 := (↑((0 : Nat) + (1 : Nat) + (1 : Nat)) : Int)
  let u2 := some (((10 : Int), ()))
  let u3 := (↑((0 : Nat) + (1 : Nat)) : Int)
  let u8 := (↑(0 : Nat) : Int)
  let u4 := A_10 vars1 (hide (wr (u8 + (1 : Int)))) (ob0) ob1
  let u5 := hide !eqI ob0.kind (2 : Int)
  let u6 := A_10 vars1 (hide (wr (u3 + (1 : Int)))) (ob0) ob1
  let u7 := A_10 vars1 (hide (wr (u1 + (1 : Int)))) (ob0) ob1
  cond (hide (ltI i7 (3 : Int))) (must (leI (0 : Int) i7 && ltI i7 (↑(3 : Nat) : Int)) (cond (List.getD ob1 i7.toNat false) (cond (eqI i7 u8) (must (eqI i7 u8) (cond (hide (leI vars1 ob0.v0)) u2 (cond (hide (ltI ob0.v0 (0 : Int))) (cond u5 u2 u4) u4))) (cond (eqI i7 u3) (must (eqI i7 u3) (cond (hide (leI vars1 ob0.v1)) u2 (cond (hide (ltI ob0.v1 (0 : Int))) (cond u5 u2 u6) u6))) (must (eqI i7 u1) (must (eqI i7 u1) (cond (hide (leI vars1 ob0.v2)) u2 (cond (hide (ltI ob0.v2 (0 : Int))) (cond u5 u2 u7) u7)))))) (A_10 vars1 (hide (wr (i7 + (1 : Int)))) (ob0) ob1))) (some (((0 : Int), ())))
def zfv (N n : Nat) (vars1 i7 : Int) (ob0 : Stp) (ob1 : List Bool) : Option (Int × Unit) :=
  zar (fun A x => zmD N (fun vars1 i7 ob0 ob1 => A ((vars1, ((), ((), (i7, ())))), (ob0, (ob1, ())))) x.1.1 x.1.2.2.2.1 x.2.1 x.2.2.1) n ((vars1, ((), ((), (i7, ())))), (ob0, (ob1, ())))
def zro (N : Nat) (A_4 : Int -> Int -> Stp -> Option (Int × Unit)) (vars1 i5 : Int) (ob0 : Stp) : Option (Int × Unit) :=
  let u9 := hide (eqI ob0.kind (2 : Int))
  let u4 := ltI (1 : Int) ob0.kind
  let u10 := zfv N N vars1 (0 : Int) (ob0) ([hide u4, true, true])
  let u13 := hide (eqI ob0.kind (4 : Int))
  let u11 := eqI ob0.kind (5 : Int)
  let u1 := cond u9 u10 (cond u13 u10 (zfv N N vars1 (0 : Int) (ob0) ([hide u4, true, hide u11])))
  let u2 := (↑((0 : Nat) + (1 : Nat) + (1 : Nat) + (1 : Nat) + (1 : Nat)) : Int)
  let u3 := (↑((0 : Nat) + (1 : Nat) + (1 : Nat) + (1 : Nat)) : Int)
  let u5 := (↑((0 : Nat) + (1 : Nat) + (1 : Nat)) : Int)
  let u6 := some (((4 : Int), ()))
  let u7 := zfv N N vars1 (0 : Int) (ob0) ([hide u4, hide (eqI ob0.kind (6 : Int)), true])
  let u8 := (↑((0 : Nat) + (1 : Nat)) : Int)
  let u12 := (↑(0 : Nat) : Int)
  cond (hide (ltI i5 (5 : Int))) (cond (eqI i5 u12) (must (eqI i5 u12) (Option.bind (p69 N (ob0.q0)) fun rr4 => cond (hide !rr4.1) u6 (A_4 vars1 (hide (wr (u12 + (1 : Int)))) (ob0)))) (cond (eqI i5 u8) (must (eqI i5 u8) (Option.bind (p69 N (ob0.q1)) fun rr3 => cond (hide !rr3.1) u6 (A_4 vars1 (hide (wr (u8 + (1 : Int)))) (ob0)))) (cond (eqI i5 u5) (must (eqI i5 u5) (Option.bind (p69 N (ob0.q2)) fun rr2 => cond (hide !rr2.1) u6 (A_4 vars1 (hide (wr (u5 + (1 : Int)))) (ob0)))) (cond (eqI i5 u3) (must (eqI i5 u3) (Option.bind (p69 N (ob0.q3)) fun rr1 => cond (hide !rr1.1) u6 (A_4 vars1 (hide (wr (u3 + (1 : Int)))) (ob0)))) (must (eqI i5 u2) (must (eqI i5 u2) (Option.bind (p69 N (ob0.q4)) fun rr0 => cond (hide !rr0.1) u6 (A_4 vars1 (hide (wr (u2 + (1 : Int)))) (ob0))))))))) (cond u9 u1 (cond (hide u11) u1 (cond u9 u7 (cond u13 u7 (zfv N N vars1 (0 : Int) (ob0) ([hide u4, hide (eqI ob0.kind (6 : Int)), hide u11]))))))
def zrp (N n : Nat) (vars1 i5 : Int) (ob0 : Stp) : Option (Int × Unit) :=
  zar (fun A x => zro N (fun vars1 i5 ob0 => A ((vars1, ((), (i5, ()))), (ob0, ()))) x.1.1 x.1.2.2.1 x.2.1) n ((vars1, ((), (i5, ()))), (ob0, ()))
def p196 (N : Nat) (s0 : Stp) (vars1 : Int) : Option (Int × Unit) :=
  cond (hide (ltI s0.kind (1 : Int))) (some (((11 : Int), ()))) (cond (hide (ltI (7 : Int) s0.kind)) (some (((11 : Int), ()))) (zrp N N vars1 (0 : Int) (s0)))
def g196 (N : Nat) : Sg := sgK [(K.st .step), K.int] [K.int] fun x => p196 N x.1 x.2.1
def zz4 : List (Nat × Head) := [
    (4, ⟨⟨83, [(1, .u (.c (.int))), (2, .u (.c (.ptr0 5000000 0))), (5, .u (.c (.int)))], [(5000000, ⟨false, 0, 112, .st .step⟩)]⟩, .exit 0⟩),
    (10, ⟨⟨83, [(1, .u (.c (.int))), (2, .u (.c (.ptr0 11000000 0))), (6, .u (.c (.ptr0 11000001 0))), (7, .u (.c (.int)))], [(11000000, ⟨false, 0, 112, .st .step⟩), (11000001, ⟨false, 3, 212, .vec .bool⟩)]⟩, .exit 2⟩)]
def zz5 (N : Nat) : List (Nat × Sg) := [(69, g69 N)]
theorem zrq (N : Nat) : zaQ Try.prog pd.els (zz5 N) := ⟨zzn N, trivial⟩
theorem zxg (N : Nat) : SgOK Try.prog pd.els 196 (g196 N) :=
  zaO zaU (zaj (zrq N)) Try.func196 (zas (by kernel_rfl)) [(K.st .step), K.int] [K.int] _ N zz4 4 fun x => by kernel_rfl
def p115 (N : Nat) (b0 : Int) (s1 v2 : List Row) (v3 : List Pr) (v4 : Stp) : Option ((Int × List Row × List Row × List Pr × Unit) × Int × Int × Unit) :=
  let u1 := some (((b0, s1, v2, v3, ()), (0 : Int), (8 : Int), ()))
  Option.bind (p196 N (v4) b0) fun rr0 => cond (hide !eqI rr0.1 (0 : Int)) (some (((b0, s1, v2, v3, ()), (0 : Int), Prod.fst rr0, ()))) (Option.bind (p197 N (v4)) fun rr1 => cond (hide (ltI (64 : Int) (hide (wr (hide (wr ((↑s1.length : Int) + (↑v2.length : Int))) + (↑rr1.1.length : Int)))))) u1 (cond (hide (eqI v4.kind (1 : Int))) (cond (hide (leI (200 : Int) b0)) u1 (some (((hide (wr (b0 + (1 : Int))), s1, v2, v3, ()), hide (wr (hide (wr (b0 + (1 : Int))) - (1 : Int))), (0 : Int), ())))) (cond (hide (eqI v4.kind (6 : Int))) (cond (hide (leI (200 : Int) (↑v3.length : Int))) u1 (must (leN (((0 : Nat) + List.length v3) * (16 : Nat)) (140737488355328 : Nat)) (must (leN ((List.length v3 + List.length [Pr.mk v4.v0 v4.v1]) * (16 : Nat)) (140737488355328 : Nat)) (some (((b0, s1, v2, v3 ++ [Pr.mk v4.v0 v4.v1], ()), (0 : Int), (0 : Int), ())))))) (cond (hide (eqI v4.kind (7 : Int))) (cond (hide (leI (8 : Int) (↑s1.length : Int))) u1 (must (leN (((0 : Nat) + List.length s1) * (280 : Nat)) (140737488355328 : Nat)) (must (leN ((List.length s1 + List.length rr1.1) * (280 : Nat)) (140737488355328 : Nat)) (some (((b0, s1 ++ Prod.fst rr1, v2, v3, ()), (0 : Int), (0 : Int), ())))))) (must (leN (((0 : Nat) + List.length v2) * (280 : Nat)) (140737488355328 : Nat)) (must (leN ((List.length v2 + List.length rr1.1) * (280 : Nat)) (140737488355328 : Nat)) (some (((b0, s1, v2 ++ Prod.fst rr1, v3, ()), (0 : Int), (0 : Int), ())))))))))
def g115 (N : Nat) : Sg := sgIO 3 [(K.agg [.int, .ro .row, .ro .row, .ro .pair] rfl), (K.st .step)] [(K.agg [.int, .ro .row, .ro .row, .ro .pair] rfl), K.int, K.int] fun x => p115 N x.1.1 x.1.2.1 x.1.2.2.1 x.1.2.2.2.1 x.2.1
def zz6 : List (Nat × Head) := [
    ]
def zz7 (N : Nat) : List (Nat × Sg) := [(196, g196 N), (197, g197 N)]
theorem zrr (N : Nat) : zaQ Try.prog pd.els (zz7 N) := ⟨zxg N, ⟨zxf N, trivial⟩⟩
theorem zxh (N : Nat) : SgOK Try.prog pd.els 115 (g115 N) :=
  zqu zaU (zaj (zrr N)) Try.func115 (zas (by kernel_rfl)) 3 (by decide) [(K.agg [.int, .ro .row, .ro .row, .ro .pair] rfl), (K.st .step)] [(K.agg [.int, .ro .row, .ro .row, .ro .pair] rfl), K.int, K.int] _ N zz6 4 fun x => by kernel_rfl
def p118 (N : Nat) (b0 : Int) (v1 v2 : List Row) (v3 : List Pr) : Option (((Int × List Row × List Row × Unit) × Nat) × (Int × Int × List Row × List Pr × Unit) × Unit) :=
  must (leN (((0 : Nat) + List.length v1) * (280 : Nat)) (140737488355328 : Nat)) (must (leN ((List.length v1 + List.length v2) * (280 : Nat)) (140737488355328 : Nat)) (some ((((b0, v1, v2, ()), List.length v3), ((↑v1.length : Int), b0, v1 ++ v2, v3, ()), ()))))
def g118 (N : Nat) : Sg := sgIO 6 [(K.agg [.int, .ro .row, .ro .row, .ro .pair] rfl)] [K.bl3, (K.agg [.int, .int, .ro .row, .ro .pair] rfl)] fun x => p118 N x.1.1 x.1.2.1 x.1.2.2.1 x.1.2.2.2.1
def zz8 : List (Nat × Head) := [
    ]
def zz9 (N : Nat) : List (Nat × Sg) := []
theorem zrs (N : Nat) : zaQ Try.prog pd.els (zz9 N) := trivial
theorem zxi (N : Nat) : SgOK Try.prog pd.els 118 (g118 N) :=
  zjx zaU (zaj (zrs N)) Try.func118 (zas (by kernel_rfl)) 6 (by decide) [(K.agg [.int, .ro .row, .ro .row, .ro .pair] rfl)] [K.bl3, (K.agg [.int, .int, .ro .row, .ro .pair] rfl)] _ N zz8 4 fun x => by kernel_rfl
def p186 (N : Nat) (l0 : Int) (n1 : List UInt8) (m2 : Int) : Option ((Int × Unit) × Int × Unit) :=
  cond (hide (leI (↑n1.length : Int) l0)) (some (((l0, ()), (0 : Int), ()))) (must (leI (0 : Int) (hide (wr (hide (wr (l0 + (1 : Int))) - (1 : Int)))) && ltI (hide (wr (hide (wr (l0 + (1 : Int))) - (1 : Int)))) (↑n1.length : Int)) (must (!eqI m2 (0 : Int)) (some (((hide (wr (l0 + (1 : Int))), ()), hide (Int.tmod (hide (↑(UInt8.toNat (List.getD n1 (Int.toNat (hide (wr (hide (wr (l0 + (1 : Int))) - (1 : Int))))) (0 : UInt8))) : Int)) m2), ())))))
def g186 (N : Nat) : Sg := sgIO 4 [(K.agg [.int] rfl), (K.ro .u8), K.int] [(K.agg [.int] rfl), K.int] fun x => p186 N x.1.1 x.2.1 x.2.2.1
def zAa : List (Nat × Head) := [
    ]
def zAb (N : Nat) : List (Nat × Sg) := []
theorem zrt (N : Nat) : zaQ Try.prog pd.els (zAb N) := trivial
theorem zxj (N : Nat) : SgOK Try.prog pd.els 186 (g186 N) :=
  zjx zaU (zaj (zrt N)) Try.func186 (zas (by kernel_rfl)) 4 (by decide) [(K.agg [.int] rfl), (K.ro .u8), K.int] [(K.agg [.int] rfl), K.int] _ N zAa 4 fun x => by kernel_rfl
def p187 (N : Nat) (m0 b1 : Int) (s2 : List Row) (val3 : List Pr) (v4 v5 : List Fr) (v6 : List Stp) (v7 : Int) (v8 v9 : List Row) (v10 : List Pr) (v11 : Stp) (v12 : Fr) : Option ((Int × Int × List Row × List Pr × List Fr × List Fr × List Stp × Unit) × (Int × List Row × List Row × List Pr × Unit) × Int × Unit) :=
  Option.bind (p115 N v7 v8 v9 v10 (v11)) fun rr0 => cond (hide !eqI (Prod.fst (rr0.2.2)) (0 : Int)) (some (((m0, b1, s2, val3, v4, v5, v6, ()), (Prod.fst rr0.1, Prod.fst (rr0.1.2), Prod.fst (Prod.snd (rr0.1.2)), Prod.fst (Prod.snd (Prod.snd (rr0.1.2))), ()), (0 : Int), ()))) (must (leN ((List.length v6 + List.length [v11]) * (192 : Nat)) (140737488355328 : Nat)) (cond (hide (eqI v11.kind (1 : Int))) (must (leN ((List.length v5 + List.length [v12]) * (32 : Nat)) (140737488355328 : Nat)) (some (((m0, b1, s2, val3, v4, v5 ++ [v12], v6 ++ [v11], ()), (Prod.fst rr0.1, Prod.fst (rr0.1.2), Prod.fst (Prod.snd (rr0.1.2)), Prod.fst (Prod.snd (Prod.snd (rr0.1.2))), ()), Prod.fst rr0.2, ())))) (some (((m0, b1, s2, val3, v4, v5, v6 ++ [v11], ()), (Prod.fst rr0.1, Prod.fst (rr0.1.2), Prod.fst (Prod.snd (rr0.1.2)), Prod.fst (Prod.snd (Prod.snd (rr0.1.2))), ()), Prod.fst rr0.2, ())))))
def g187 (N : Nat) : Sg := sgIO 5 [(K.agg [.int, .int, .ro .row, .ro .pair, .ro .fr, .ro .fr, .ro .step] rfl), (K.agg [.int, .ro .row, .ro .row, .ro .pair] rfl), (K.st .step), K.fr] [(K.agg [.int, .int, .ro .row, .ro .pair, .ro .fr, .ro .fr, .ro .step] rfl), (K.agg [.int, .ro .row, .ro .row, .ro .pair] rfl), K.int] fun x => p187 N x.1.1 x.1.2.1 x.1.2.2.1 x.1.2.2.2.1 x.1.2.2.2.2.1 x.1.2.2.2.2.2.1 x.1.2.2.2.2.2.2.1 x.2.1.1 x.2.1.2.1 x.2.1.2.2.1 x.2.1.2.2.2.1 x.2.2.1 x.2.2.2.1
def zAc : List (Nat × Head) := [
    ]
def zAd (N : Nat) : List (Nat × Sg) := [(115, g115 N)]
theorem zru (N : Nat) : zaQ Try.prog pd.els (zAd N) := ⟨zxh N, trivial⟩
theorem zrv (N : Nat) : SgOK Try.prog pd.els 187 (g187 N) :=
  zjx zaU (zaj (zru N)) Try.func187 (zas (by kernel_rfl)) 5 (by decide) [(K.agg [.int, .int, .ro .row, .ro .pair, .ro .fr, .ro .fr, .ro .step] rfl), (K.agg [.int, .ro .row, .ro .row, .ro .pair] rfl), (K.st .step), K.fr] [(K.agg [.int, .int, .ro .row, .ro .pair, .ro .fr, .ro .fr, .ro .step] rfl), (K.agg [.int, .ro .row, .ro .row, .ro .pair] rfl), K.int] _ N zAc 4 fun x => by kernel_rfl
def p185 (N : Nat) (m0 b1 : Int) (val2 : List Row) (v3 : List Pr) (v4 v5 : List Fr) (v6 : List Stp) (v7 : Int) (v8 v9 : List Row) (v10 : List Pr) (v11 : Fr) : Option ((Int × Int × List Row × List Pr × List Fr × List Fr × List Stp × Unit) × (Int × List Row × List Row × List Pr × Unit) × Int × Unit) :=
  let u1 := Fr.zero
  Option.bind (p187 N m0 b1 val2 v3 v4 v5 v6 v7 v8 v9 v10 (Stp.mk (1 : Int) (0 : Int) (0 : Int) (0 : Int) u1 u1 u1 u1 u1) (v11)) fun rr0 => some (((Prod.fst rr0.1, Prod.fst (rr0.1.2), Prod.fst (Prod.snd (rr0.1.2)), Prod.fst (Prod.snd (Prod.snd (rr0.1.2))), Prod.fst (Prod.snd (Prod.snd (Prod.snd (rr0.1.2)))), Prod.fst (Prod.snd (Prod.snd (Prod.snd (Prod.snd (rr0.1.2))))), Prod.fst (Prod.snd (Prod.snd (Prod.snd (Prod.snd (Prod.snd (rr0.1.2)))))), ()), (Prod.fst (rr0.2.1), Prod.fst (Prod.snd (rr0.2.1)), Prod.fst (Prod.snd (Prod.snd (rr0.2.1))), Prod.fst (Prod.snd (Prod.snd (Prod.snd (rr0.2.1)))), ()), Prod.fst (rr0.2.2), ()))
def g185 (N : Nat) : Sg := sgIO 5 [(K.agg [.int, .int, .ro .row, .ro .pair, .ro .fr, .ro .fr, .ro .step] rfl), (K.agg [.int, .ro .row, .ro .row, .ro .pair] rfl), K.fr] [(K.agg [.int, .int, .ro .row, .ro .pair, .ro .fr, .ro .fr, .ro .step] rfl), (K.agg [.int, .ro .row, .ro .row, .ro .pair] rfl), K.int] fun x => p185 N x.1.1 x.1.2.1 x.1.2.2.1 x.1.2.2.2.1 x.1.2.2.2.2.1 x.1.2.2.2.2.2.1 x.1.2.2.2.2.2.2.1 x.2.1.1 x.2.1.2.1 x.2.1.2.2.1 x.2.1.2.2.2.1 x.2.2.1
def zAe : List (Nat × Head) := [
    ]
def zAf (N : Nat) : List (Nat × Sg) := [(187, g187 N)]
theorem zrw (N : Nat) : zaQ Try.prog pd.els (zAf N) := ⟨zrv N, trivial⟩
theorem zxk (N : Nat) : SgOK Try.prog pd.els 185 (g185 N) :=
  zjx zaU (zaj (zrw N)) Try.func185 (zas (by kernel_rfl)) 5 (by decide) [(K.agg [.int, .int, .ro .row, .ro .pair, .ro .fr, .ro .fr, .ro .step] rfl), (K.agg [.int, .ro .row, .ro .row, .ro .pair] rfl), K.fr] [(K.agg [.int, .int, .ro .row, .ro .pair, .ro .fr, .ro .fr, .ro .step] rfl), (K.agg [.int, .ro .row, .ro .row, .ro .pair] rfl), K.int] _ N zAe 4 fun x => by kernel_rfl
def zxl (N : Nat) (A_8 : (List UInt8) -> Int -> Int -> Int -> Int -> Int -> Int -> Int -> Int -> Fr -> (List Row) -> (List Pr) -> (List Fr) -> (List Fr) -> (List Stp) -> (List Row) -> (List Pr) -> (List Fr) -> (List Fr) -> (List Stp) -> (List Row) -> (List Row) -> (List Pr) -> Option ((Int × Int × List Row × List Pr × List Fr × List Fr × List Stp × Unit) × Unit)) (l0 : List UInt8) (most1 g9 ob0_0 ob0_1 ob1_0 ob1_1 ob2_0 ob3_0 : Int) (ob4 : Fr) (ob5 : List Row) (ob6 : List Pr) (ob7 ob8 : List Fr) (ob9 : List Stp) (ob10 : List Row) (ob11 : List Pr) (ob12 ob13 : List Fr) (ob14 : List Stp) (ob15 ob16 : List Row) (ob17 : List Pr) : Option ((Int × Int × List Row × List Pr × List Fr × List Fr × List Stp × Unit) × Unit) :=
  cond (hide (ltI g9 most1)) (cond (hide (ltI ob2_0 (↑l0.length : Int))) (Option.bind (p186 N ob2_0 l0 ((↑ob13.length : Int))) fun rr2 => let w2 := rr2.2.1; let w0 := List.getD ob13 (Int.toNat w2) (Fr.zero); let w1 := Fr.mk (Fr.a0 w0) (Fr.a1 w0) (Fr.a2 w0) (Fr.a3 w0); Option.bind (p186 N (rr2.1.1) l0 ((↑ob13.length : Int))) fun rr3 => let w3 := List.getD ob13 (Int.toNat (rr3.2.1)) (Fr.zero); let w4 := Fr.mk (Fr.a0 w3) (Fr.a1 w3) (Fr.a2 w3) (Fr.a3 w3); must (leI (0 : Int) w2 && ltI w2 (↑ob13.length : Int)) (must (leI (0 : Int) (rr3.2.1) && ltI (rr3.2.1) (↑ob13.length : Int)) (Option.bind (p186 N (rr3.1.1) l0 (7 : Int)) fun rr4 => let w5 := rr4.1.1; cond (hide (eqI (rr4.2.1) (0 : Int))) (Option.bind (p186 N w5 l0 (9 : Int)) fun rr20 => Option.bind (p173 N (hide (u64I (rr20.2.1)))) fun rr21 => Option.bind (p94 N w1 w4) fun rr22 => Option.bind (p94 N (rr21.1) w1) fun rr23 => Option.bind (p81 N (rr22.1) (rr23.1)) fun rr24 => Option.bind (p173 N (5 : UInt64)) fun rr25 => Option.bind (p81 N (rr24.1) (rr25.1)) fun rr26 => Option.bind (p185 N ob1_0 ob1_1 ob10 ob11 ob12 ob13 ob14 ob3_0 ob15 ob16 ob17 (rr26.1)) fun rr27 => let w6 := Prod.snd (Prod.snd (rr27.1.2)); Option.bind (p85 N (ob4)) fun rr28 => Option.bind (p173 N (5 : UInt64)) fun rr29 => Option.bind (p187 N (rr27.1.1) (Prod.fst (rr27.1.2)) (Prod.fst (Prod.snd (rr27.1.2))) (Prod.fst w6) (Prod.fst (Prod.snd w6)) (Prod.fst (Prod.snd (Prod.snd w6))) (Prod.fst (Prod.snd (Prod.snd (Prod.snd w6)))) (Prod.fst (rr27.2.1)) (Prod.fst (Prod.snd (rr27.2.1))) (Prod.fst (Prod.snd (Prod.snd (rr27.2.1)))) (Prod.fst (Prod.snd (Prod.snd (Prod.snd (rr27.2.1))))) (Stp.mk (2 : Int) w2 (rr3.2.1) (Prod.fst (rr27.2.2)) (ob4) (rr21.1) (Fr.zero) (rr28.1) (rr29.1)) (ob4)) fun rr30 => let w7 := Prod.snd (Prod.snd (rr30.1.2)); A_8 l0 most1 (hide (wr (g9 + (1 : Int)))) ob0_0 ob0_1 (rr30.1.1) (Prod.fst (rr30.1.2)) (rr20.1.1) (Prod.fst (rr30.2.1)) (ob4) ob5 ob6 ob7 ob8 ob9 (Prod.fst (Prod.snd (rr30.1.2))) (Prod.fst w7) (Prod.fst (Prod.snd w7)) (Prod.fst (Prod.snd (Prod.snd w7))) (Prod.fst (Prod.snd (Prod.snd (Prod.snd w7)))) (Prod.fst (Prod.snd (rr30.2.1))) (Prod.fst (Prod.snd (Prod.snd (rr30.2.1)))) (Prod.fst (Prod.snd (Prod.snd (Prod.snd (rr30.2.1)))))) (cond (hide (eqI (rr4.2.1) (1 : Int))) (Option.bind (p186 N w5 l0 (2 : Int)) fun rr16 => Option.bind (p173 N (hide (u64I (rr16.2.1)))) fun rr17 => Option.bind (p185 N ob1_0 ob1_1 ob10 ob11 ob12 ob13 ob14 ob3_0 ob15 ob16 ob17 (rr17.1)) fun rr18 => let w8 := Prod.snd (Prod.snd (rr18.1.2)); Option.bind (p187 N (rr18.1.1) (Prod.fst (rr18.1.2)) (Prod.fst (Prod.snd (rr18.1.2))) (Prod.fst w8) (Prod.fst (Prod.snd w8)) (Prod.fst (Prod.snd (Prod.snd w8))) (Prod.fst (Prod.snd (Prod.snd (Prod.snd w8)))) (Prod.fst (rr18.2.1)) (Prod.fst (Prod.snd (rr18.2.1))) (Prod.fst (Prod.snd (Prod.snd (rr18.2.1)))) (Prod.fst (Prod.snd (Prod.snd (Prod.snd (rr18.2.1))))) (Stp.mk (3 : Int) (Prod.fst (rr18.2.2)) (0 : Int) (0 : Int) (Fr.zero) (Fr.zero) (Fr.zero) (Fr.zero) (Fr.zero)) (ob4)) fun rr19 => let w9 := Prod.snd (Prod.snd (rr19.1.2)); A_8 l0 most1 (hide (wr (g9 + (1 : Int)))) ob0_0 ob0_1 (rr19.1.1) (Prod.fst (rr19.1.2)) (rr16.1.1) (Prod.fst (rr19.2.1)) (ob4) ob5 ob6 ob7 ob8 ob9 (Prod.fst (Prod.snd (rr19.1.2))) (Prod.fst w9) (Prod.fst (Prod.snd w9)) (Prod.fst (Prod.snd (Prod.snd w9))) (Prod.fst (Prod.snd (Prod.snd (Prod.snd w9)))) (Prod.fst (Prod.snd (rr19.2.1))) (Prod.fst (Prod.snd (Prod.snd (rr19.2.1)))) (Prod.fst (Prod.snd (Prod.snd (Prod.snd (rr19.2.1)))))) (cond (hide (eqI (rr4.2.1) (2 : Int))) (Option.bind (p73 N w1 ([(5 : UInt64)])) fun rr13 => Option.bind (p185 N ob1_0 ob1_1 ob10 ob11 ob12 ob13 ob14 ob3_0 ob15 ob16 ob17 (rr13.1)) fun rr14 => let w10 := Prod.snd (Prod.snd (rr14.1.2)); Option.bind (p187 N (rr14.1.1) (Prod.fst (rr14.1.2)) (Prod.fst (Prod.snd (rr14.1.2))) (Prod.fst w10) (Prod.fst (Prod.snd w10)) (Prod.fst (Prod.snd (Prod.snd w10))) (Prod.fst (Prod.snd (Prod.snd (Prod.snd w10)))) (Prod.fst (rr14.2.1)) (Prod.fst (Prod.snd (rr14.2.1))) (Prod.fst (Prod.snd (Prod.snd (rr14.2.1)))) (Prod.fst (Prod.snd (Prod.snd (Prod.snd (rr14.2.1))))) (Stp.mk (4 : Int) w2 (0 : Int) (Prod.fst (rr14.2.2)) (Fr.zero) (Fr.zero) (Fr.zero) (Fr.zero) (Fr.zero)) (ob4)) fun rr15 => let w11 := Prod.snd (Prod.snd (rr15.1.2)); A_8 l0 most1 (hide (wr (g9 + (1 : Int)))) ob0_0 ob0_1 (rr15.1.1) (Prod.fst (rr15.1.2)) w5 (Prod.fst (rr15.2.1)) (ob4) ob5 ob6 ob7 ob8 ob9 (Prod.fst (Prod.snd (rr15.1.2))) (Prod.fst w11) (Prod.fst (Prod.snd w11)) (Prod.fst (Prod.snd (Prod.snd w11))) (Prod.fst (Prod.snd (Prod.snd (Prod.snd w11)))) (Prod.fst (Prod.snd (rr15.2.1))) (Prod.fst (Prod.snd (Prod.snd (rr15.2.1)))) (Prod.fst (Prod.snd (Prod.snd (Prod.snd (rr15.2.1)))))) (cond (hide (eqI (rr4.2.1) (3 : Int))) (Option.bind (p81 N w1 w4) fun rr10 => Option.bind (p185 N ob1_0 ob1_1 ob10 ob11 ob12 ob13 ob14 ob3_0 ob15 ob16 ob17 (rr10.1)) fun rr11 => let w12 := Prod.snd (Prod.snd (rr11.1.2)); Option.bind (p187 N (rr11.1.1) (Prod.fst (rr11.1.2)) (Prod.fst (Prod.snd (rr11.1.2))) (Prod.fst w12) (Prod.fst (Prod.snd w12)) (Prod.fst (Prod.snd (Prod.snd w12))) (Prod.fst (Prod.snd (Prod.snd (Prod.snd w12)))) (Prod.fst (rr11.2.1)) (Prod.fst (Prod.snd (rr11.2.1))) (Prod.fst (Prod.snd (Prod.snd (rr11.2.1)))) (Prod.fst (Prod.snd (Prod.snd (Prod.snd (rr11.2.1))))) (Stp.mk (5 : Int) w2 (rr3.2.1) (Prod.fst (rr11.2.2)) (Fr.zero) (Fr.zero) (Fr.zero) (Fr.zero) (Fr.zero)) (ob4)) fun rr12 => let w13 := Prod.snd (Prod.snd (rr12.1.2)); A_8 l0 most1 (hide (wr (g9 + (1 : Int)))) ob0_0 ob0_1 (rr12.1.1) (Prod.fst (rr12.1.2)) w5 (Prod.fst (rr12.2.1)) (ob4) ob5 ob6 ob7 ob8 ob9 (Prod.fst (Prod.snd (rr12.1.2))) (Prod.fst w13) (Prod.fst (Prod.snd w13)) (Prod.fst (Prod.snd (Prod.snd w13))) (Prod.fst (Prod.snd (Prod.snd (Prod.snd w13)))) (Prod.fst (Prod.snd (rr12.2.1))) (Prod.fst (Prod.snd (Prod.snd (rr12.2.1)))) (Prod.fst (Prod.snd (Prod.snd (Prod.snd (rr12.2.1)))))) (cond (hide (eqI (rr4.2.1) (4 : Int))) (Option.bind (p185 N ob1_0 ob1_1 ob10 ob11 ob12 ob13 ob14 ob3_0 ob15 ob16 ob17 w1) fun rr8 => let w14 := Prod.snd (Prod.snd (rr8.1.2)); Option.bind (p187 N (rr8.1.1) (Prod.fst (rr8.1.2)) (Prod.fst (Prod.snd (rr8.1.2))) (Prod.fst w14) (Prod.fst (Prod.snd w14)) (Prod.fst (Prod.snd (Prod.snd w14))) (Prod.fst (Prod.snd (Prod.snd (Prod.snd w14)))) (Prod.fst (rr8.2.1)) (Prod.fst (Prod.snd (rr8.2.1))) (Prod.fst (Prod.snd (Prod.snd (rr8.2.1)))) (Prod.fst (Prod.snd (Prod.snd (Prod.snd (rr8.2.1))))) (Stp.mk (6 : Int) (Prod.fst (rr8.2.2)) w2 (0 : Int) (Fr.zero) (Fr.zero) (Fr.zero) (Fr.zero) (Fr.zero)) (ob4)) fun rr9 => let w15 := Prod.snd (Prod.snd (rr9.1.2)); A_8 l0 most1 (hide (wr (g9 + (1 : Int)))) ob0_0 ob0_1 (rr9.1.1) (Prod.fst (rr9.1.2)) w5 (Prod.fst (rr9.2.1)) (ob4) ob5 ob6 ob7 ob8 ob9 (Prod.fst (Prod.snd (rr9.1.2))) (Prod.fst w15) (Prod.fst (Prod.snd w15)) (Prod.fst (Prod.snd (Prod.snd w15))) (Prod.fst (Prod.snd (Prod.snd (Prod.snd w15)))) (Prod.fst (Prod.snd (rr9.2.1))) (Prod.fst (Prod.snd (Prod.snd (rr9.2.1)))) (Prod.fst (Prod.snd (Prod.snd (Prod.snd (rr9.2.1)))))) (cond (hide (eqI (rr4.2.1) (5 : Int))) (cond (hide (ltI (↑ob12.length : Int) (3 : Int))) (Option.bind (p187 N ob1_0 ob1_1 ob10 ob11 ob12 ob13 ob14 ob3_0 ob15 ob16 ob17 (Stp.mk (7 : Int) w2 (0 : Int) (0 : Int) (Fr.zero) (Fr.zero) (Fr.zero) (Fr.zero) (Fr.zero)) (ob4)) fun rr7 => let w16 := Prod.snd (Prod.snd (Prod.snd (rr7.1.2))); must (leN ((List.length (Prod.fst w16) + List.length [Fr.mk (Fr.a0 w0) (Fr.a1 w0) (Fr.a2 w0) (Fr.a3 w0)]) * (32 : Nat)) (140737488355328 : Nat)) (A_8 l0 most1 (hide (wr (g9 + (1 : Int)))) ob0_0 ob0_1 (rr7.1.1) (Prod.fst (rr7.1.2)) w5 (Prod.fst (rr7.2.1)) (ob4) ob5 ob6 ob7 ob8 ob9 (Prod.fst (Prod.snd (rr7.1.2))) (Prod.fst (Prod.snd (Prod.snd (rr7.1.2)))) (Prod.fst w16 ++ [Fr.mk (Fr.a0 w0) (Fr.a1 w0) (Fr.a2 w0) (Fr.a3 w0)]) (Prod.fst (Prod.snd w16)) (Prod.fst (Prod.snd (Prod.snd w16))) (Prod.fst (Prod.snd (rr7.2.1))) (Prod.fst (Prod.snd (Prod.snd (rr7.2.1)))) (Prod.fst (Prod.snd (Prod.snd (Prod.snd (rr7.2.1))))))) (A_8 l0 most1 (hide (wr (g9 + (1 : Int)))) ob0_0 ob0_1 ob1_0 ob1_1 w5 ob3_0 (ob4) ob5 ob6 ob7 ob8 ob9 ob10 ob11 ob12 ob13 ob14 ob15 ob16 ob17)) (Option.bind (p85 N (ob4)) fun rr5 => Option.bind (p187 N ob1_0 ob1_1 ob10 ob11 ob12 ob13 ob14 ob3_0 ob15 ob16 ob17 (Stp.mk (2 : Int) w2 (-5 : Int) w2 (Fr.zero) (ob4) (Fr.zero) (rr5.1) (Fr.zero)) (ob4)) fun rr6 => let w17 := Prod.snd (Prod.snd (rr6.1.2)); A_8 l0 most1 (hide (wr (g9 + (1 : Int)))) ob0_0 ob0_1 (rr6.1.1) (Prod.fst (rr6.1.2)) w5 (Prod.fst (rr6.2.1)) (ob4) ob5 ob6 ob7 ob8 ob9 (Prod.fst (Prod.snd (rr6.1.2))) (Prod.fst w17) (Prod.fst (Prod.snd w17)) (Prod.fst (Prod.snd (Prod.snd w17))) (Prod.fst (Prod.snd (Prod.snd (Prod.snd w17)))) (Prod.fst (Prod.snd (rr6.2.1))) (Prod.fst (Prod.snd (Prod.snd (rr6.2.1)))) (Prod.fst (Prod.snd (Prod.snd (Prod.snd (rr6.2.1)))))))))))))) (Option.bind (p118 N ob3_0 ob15 ob16 ob17) fun rr1 => some (((Prod.fst (rr1.2.1), Prod.fst (Prod.snd (rr1.2.1)), Prod.fst (Prod.snd (Prod.snd (rr1.2.1))), Prod.fst (Prod.snd (Prod.snd (Prod.snd (rr1.2.1)))), ob12, ob13, ob14, ()), ())))) (Option.bind (p118 N ob3_0 ob15 ob16 ob17) fun rr0 => some (((Prod.fst (rr0.2.1), Prod.fst (Prod.snd (rr0.2.1)), Prod.fst (Prod.snd (Prod.snd (rr0.2.1))), Prod.fst (Prod.snd (Prod.snd (Prod.snd (rr0.2.1)))), ob12, ob13, ob14, ()), ())))
def zxm (N n : Nat) (l0 : List UInt8) (most1 g9 ob0_0 ob0_1 ob1_0 ob1_1 ob2_0 ob3_0 : Int) (ob4 : Fr) (ob5 : List Row) (ob6 : List Pr) (ob7 ob8 : List Fr) (ob9 : List Stp) (ob10 : List Row) (ob11 : List Pr) (ob12 ob13 : List Fr) (ob14 : List Stp) (ob15 ob16 : List Row) (ob17 : List Pr) : Option ((Int × Int × List Row × List Pr × List Fr × List Fr × List Stp × Unit) × Unit) :=
  zar (fun A x => zxl N (fun l0 most1 g9 ob0_0 ob0_1 ob1_0 ob1_1 ob2_0 ob3_0 ob4 ob5 ob6 ob7 ob8 ob9 ob10 ob11 ob12 ob13 ob14 ob15 ob16 ob17 => A ((l0, (most1, ((), ((), ((), ((), ((), (g9, ())))))))), ((ob0_0, (ob0_1, ((), ((), ((), ((), ((), ()))))))), ((ob1_0, (ob1_1, ((), ((), ((), ((), ((), ()))))))), ((ob2_0, ()), ((ob3_0, ((), ((), ((), ())))), (ob4, (ob5, (ob6, (ob7, (ob8, (ob9, (ob10, (ob11, (ob12, (ob13, (ob14, (ob15, (ob16, (ob17, ())))))))))))))))))))) x.1.1 x.1.2.1 x.1.2.2.2.2.2.2.2.1 x.2.1.1 x.2.1.2.1 x.2.2.1.1 x.2.2.1.2.1 x.2.2.2.1.1 x.2.2.2.2.1.1 x.2.2.2.2.2.1 x.2.2.2.2.2.2.1 x.2.2.2.2.2.2.2.1 x.2.2.2.2.2.2.2.2.1 x.2.2.2.2.2.2.2.2.2.1 x.2.2.2.2.2.2.2.2.2.2.1 x.2.2.2.2.2.2.2.2.2.2.2.1 x.2.2.2.2.2.2.2.2.2.2.2.2.1 x.2.2.2.2.2.2.2.2.2.2.2.2.2.1 x.2.2.2.2.2.2.2.2.2.2.2.2.2.2.1 x.2.2.2.2.2.2.2.2.2.2.2.2.2.2.2.1 x.2.2.2.2.2.2.2.2.2.2.2.2.2.2.2.2.1 x.2.2.2.2.2.2.2.2.2.2.2.2.2.2.2.2.2.1 x.2.2.2.2.2.2.2.2.2.2.2.2.2.2.2.2.2.2.1) n ((l0, (most1, ((), ((), ((), ((), ((), (g9, ())))))))), ((ob0_0, (ob0_1, ((), ((), ((), ((), ((), ()))))))), ((ob1_0, (ob1_1, ((), ((), ((), ((), ((), ()))))))), ((ob2_0, ()), ((ob3_0, ((), ((), ((), ())))), (ob4, (ob5, (ob6, (ob7, (ob8, (ob9, (ob10, (ob11, (ob12, (ob13, (ob14, (ob15, (ob16, (ob17, ())))))))))))))))))))
def p95 (N : Nat) (l0 : List UInt8) (most1 : Int) : Option ((Int × Int × List Row × List Pr × List Fr × List Fr × List Stp × Unit) × Unit) :=
  Option.bind (p173 N (1 : UInt64)) fun rr0 => Option.bind (p186 N (0 : Int) l0 (200 : Int)) fun rr1 => Option.bind (p173 N (hide (u64I (rr1.2.1)))) fun rr2 => Option.bind (p185 N (0 : Int) (0 : Int) [] [] [] [] [] (0 : Int) [] [] [] (rr2.1)) fun rr3 => let w0 := Prod.snd (Prod.snd (rr3.1.2)); Option.bind (p186 N (rr1.1.1) l0 (2 : Int)) fun rr4 => Option.bind (p173 N (hide (u64I (rr4.2.1)))) fun rr5 => Option.bind (p185 N (rr3.1.1) (Prod.fst (rr3.1.2)) (Prod.fst (Prod.snd (rr3.1.2))) (Prod.fst w0) (Prod.fst (Prod.snd w0)) (Prod.fst (Prod.snd (Prod.snd w0))) (Prod.fst (Prod.snd (Prod.snd (Prod.snd w0)))) (Prod.fst (rr3.2.1)) (Prod.fst (Prod.snd (rr3.2.1))) (Prod.fst (Prod.snd (Prod.snd (rr3.2.1)))) (Prod.fst (Prod.snd (Prod.snd (Prod.snd (rr3.2.1))))) (rr5.1)) fun rr6 => let w1 := Prod.snd (Prod.snd (rr6.1.2)); zxm N N l0 most1 (0 : Int) (0 : Int) (0 : Int) (rr6.1.1) (Prod.fst (rr6.1.2)) (rr4.1.1) (Prod.fst (rr6.2.1)) (rr0.1) [] [] [] [] [] (Prod.fst (Prod.snd (rr6.1.2))) (Prod.fst w1) (Prod.fst (Prod.snd w1)) (Prod.fst (Prod.snd (Prod.snd w1))) (Prod.fst (Prod.snd (Prod.snd (Prod.snd w1)))) (Prod.fst (Prod.snd (rr6.2.1))) (Prod.fst (Prod.snd (Prod.snd (rr6.2.1)))) (Prod.fst (Prod.snd (Prod.snd (Prod.snd (rr6.2.1)))))
def g95 (N : Nat) : Sg := sgK [(K.ro .u8), K.int] [(K.agg [.int, .int, .ro .row, .ro .pair, .ro .fr, .ro .fr, .ro .step] rfl)] fun x => p95 N x.1 x.2.1
def zCy : List (Nat × Head) := [
    (8, ⟨⟨192, [(0, .u (.c (.ro .u8))), (1, .u (.c (.int))), (4, .u (.c (.ptr0 9000000 0))), (5, .u (.c (.ptr0 9000001 0))), (6, .u (.c (.ptr0 9000002 0))), (7, .u (.c (.ptr0 9000003 0))), (8, .u (.c (.ptr0 9000004 0))), (9, .u (.c (.int)))], [(9000000, ⟨false, 0, 83, .lit [.int, .int, .row 9000005, .row 9000006, .row 9000007, .row 9000008, .row 9000009]⟩), (9000001, ⟨false, 0, 83, .lit [.int, .int, .row 9000010, .row 9000011, .row 9000012, .row 9000013, .row 9000014]⟩), (9000002, ⟨false, 0, 3, .lit [.int]⟩), (9000003, ⟨false, 0, 130, .lit [.int, .row 9000015, .row 9000016, .row 9000017]⟩), (9000004, ⟨false, 4, 53, .fr⟩), (9000005, ⟨true, 0, 116, .vec .row⟩), (9000006, ⟨true, 0, 158, .vec .pair⟩), (9000007, ⟨true, 0, 53, .vec .fr⟩), (9000008, ⟨true, 0, 53, .vec .fr⟩), (9000009, ⟨true, 0, 112, .vec .step⟩), (9000010, ⟨true, 0, 116, .vec .row⟩), (9000011, ⟨true, 0, 158, .vec .pair⟩), (9000012, ⟨true, 0, 53, .vec .fr⟩), (9000013, ⟨true, 0, 53, .vec .fr⟩), (9000014, ⟨true, 0, 112, .vec .step⟩), (9000015, ⟨true, 0, 116, .vec .row⟩), (9000016, ⟨true, 0, 116, .vec .row⟩), (9000017, ⟨true, 0, 158, .vec .pair⟩)]⟩, .exit 0⟩)]
def zCz (N : Nat) : List (Nat × Sg) := [(173, g173 N), (186, g186 N), (185, g185 N), (94, g94 N), (81, g81 N), (85, g85 N), (187, g187 N), (73, g73 N), (118, g118 N)]
theorem zuc (N : Nat) : zaQ Try.prog pd.els (zCz N) := ⟨zmh N, ⟨zxj N, ⟨zxk N, ⟨zvC N, ⟨zzz N, ⟨zzD N, ⟨zrv N, ⟨zzw N, ⟨zxi N, trivial⟩⟩⟩⟩⟩⟩⟩⟩⟩
theorem zAg (N : Nat) : SgOK Try.prog pd.els 95 (g95 N) :=
  zaO zaU (zaj (zuc N)) Try.func95 (zas (by kernel_rfl)) [(K.ro .u8), K.int] [(K.agg [.int, .int, .ro .row, .ro .pair, .ro .fr, .ro .fr, .ro .step] rfl)] _ N zCy 4 fun x => by kernel_rfl
end
end Go.Proofs.Ytgimohchocjgcaa.V
