import Derived.Test.YtgimohchocjgcaaVTM
import Derived.Test.YtgimohchocjgcaaVWA1
import Derived.KernelRfl
import Derived.Test.YtgimohchocjgcaaVME
set_option linter.unusedVariables false
set_option linter.unusedSimpArgs false
namespace Go.Proofs.Ytgimohchocjgcaa.V
section
def zdN (N : Nat) (A_11 : Int -> Int -> (List Row) -> (List Row) -> (List Row) -> Option (List Row × Unit)) (t26 t27 : Int) (ob0_0 ob0_1 newslice6o : List Row) : Option (List Row × Unit) :=
  cond (hide (ltI t27 t26)) (cond (eqI t27 (↑(0 : Nat) : Int)) (must (leN ((List.length newslice6o + List.length ob0_0) * (280 : Nat)) (140737488355328 : Nat)) (A_11 t26 (hide (wr ((↑(0 : Nat) : Int) + (1 : Int)))) ob0_0 ob0_1 (newslice6o ++ ob0_0))) (must (eqI t27 (↑((0 : Nat) + (1 : Nat)) : Int)) (must (leN ((List.length newslice6o + List.length ob0_1) * (280 : Nat)) (140737488355328 : Nat)) (A_11 t26 (hide (wr ((↑((0 : Nat) + (1 : Nat)) : Int) + (1 : Int)))) ob0_0 ob0_1 (newslice6o ++ ob0_1))))) (some ((newslice6o, ())))
def zdO (N n : Nat) (t26 t27 : Int) (ob0_0 ob0_1 newslice6o : List Row) : Option (List Row × Unit) :=
  zap (fun A x => zdN N (fun t26 t27 ob0_0 ob0_1 newslice6o => A (((), ((), (t26, (t27, ())))), ((ob0_0, (ob0_1, ())), (newslice6o, ())))) x.1.2.2.1 x.1.2.2.2.1 x.2.1.1 x.2.1.2.1 x.2.2.1) n (((), ((), (t26, (t27, ())))), ((ob0_0, (ob0_1, ())), (newslice6o, ())))
def zeJ (N : Nat) (A_3 : Int -> Int -> Int -> (List Row) -> (List Row) -> Option (List Row × Unit)) (size3 t10 t11 : Int) (ob0_0 ob0_1 : List Row) : Option (List Row × Unit) :=
  cond (hide (ltI t11 t10)) (cond (eqI t11 (↑(0 : Nat) : Int)) (cond (hide (ltI (hide (wr (size3 + (↑ob0_0.length : Int)))) (0 : Int))) (none) (A_3 (hide (wr (size3 + (↑ob0_0.length : Int)))) t10 (hide (wr ((↑(0 : Nat) : Int) + (1 : Int)))) ob0_0 ob0_1)) (must (eqI t11 (↑((0 : Nat) + (1 : Nat)) : Int)) (cond (hide (ltI (hide (wr (size3 + (↑ob0_1.length : Int)))) (0 : Int))) (none) (A_3 (hide (wr (size3 + (↑ob0_1.length : Int)))) t10 (hide (wr ((↑((0 : Nat) + (1 : Nat)) : Int) + (1 : Int)))) ob0_0 ob0_1)))) (Option.bind (zfp N size3) fun rr0 => zdO N N ((↑(2 : Nat) : Int)) (0 : Int) ob0_0 ob0_1 rr0.1)
def zeK (N n : Nat) (size3 t10 t11 : Int) (ob0_0 ob0_1 : List Row) : Option (List Row × Unit) :=
  zap (fun A x => zeJ N (fun size3 t10 t11 ob0_0 ob0_1 => A (((), (size3, ((), (t10, (t11, ()))))), ((ob0_0, (ob0_1, ())), ()))) x.1.2.1 x.1.2.2.2.1 x.1.2.2.2.2.1 x.2.1.1 x.2.1.2.1) n (((), (size3, ((), (t10, (t11, ()))))), ((ob0_0, (ob0_1, ())), ()))
def zfr (N : Nat) (slices0 v1 : List Row) : Option (List Row × Unit) :=
  zeK N N (0 : Int) ((↑(List.length [C.ro El.row slices0, C.ro El.row v1]) : Int)) (0 : Int) slices0 v1
def zlW (N : Nat) : Sg := sgK [(K.agg [.ro .row, .ro .row] rfl)] [(K.ro .row)] fun x => zfr N x.1.1 x.1.2.1
def zmP : List (Nat × Head) := [
    (3, ⟨⟨36, [(0, .u (.c (.asl 4000000 0 2))), (3, .u (.c (.int))), (9, .u (.c (.asl 4000000 0 2))), (10, .u (.c (.int))), (11, .u (.c (.int)))], [(4000000, ⟨false, 0, 1000000, .lit [.ro .row, .ro .row]⟩)]⟩, .exit 0⟩),
    (11, ⟨⟨36, [(6, .u (.c (.row 12000001))), (25, .u (.c (.asl 12000000 0 2))), (26, .u (.c (.int))), (27, .u (.c (.int)))], [(12000000, ⟨false, 0, 1000000, .lit [.ro .row, .ro .row]⟩), (12000001, ⟨true, 0, 116, .vec .row⟩)]⟩, .exit 2⟩)]
def zmQ (N : Nat) : List (Nat × Sg) := [(3000219, zh1 N)]
theorem zh4 (N : Nat) : zaN Try.prog pd.els (zmQ N) := ⟨zkl N, trivial⟩
theorem zkC (N : Nat) : SgOK Try.prog pd.els 2000198 (zlW N) :=
  zvx zaO (zaj (zh4 N)) Try.func198 (zar (by kernel_rfl)) [(K.agg [.ro .row, .ro .row] rfl)] [(K.ro .row)] _ N zmP 4 fun x => by kernel_rfl
def p113 (N : Nat) : Option (Unit × (Int × List Row × List Row × List Pr × Unit) × Unit) :=
  some (((), ((0 : Int), [], [], [], ()), ()))
def g113 (N : Nat) : Sg := sgK [] [K.bx, (K.agg [.int, .ro .row, .ro .row, .ro .pair] rfl)] fun x => p113 N
def zwv : List (Nat × Head) := [
    ]
def zww (N : Nat) : List (Nat × Sg) := []
theorem zo8 (N : Nat) : zaN Try.prog pd.els (zww N) := trivial
theorem zo9 (N : Nat) : SgOK Try.prog pd.els 113 (g113 N) :=
  zaJ zaO (zaj (zo8 N)) Try.func113 (zar (by kernel_rfl)) [] [K.bx, (K.agg [.int, .ro .row, .ro .row, .ro .pair] rfl)] _ N zwv 4 fun x => by kernel_rfl
def p114 (N : Nat) (b0 : Int) (s1 v2 : List Row) (v3 : List Pr) (v4 : Stp) : Option ((Int × List Row × List Row × List Pr × Unit) × Int × Int × Unit) :=
  let u2 := (b0, s1, v2, v3, ())
  let u1 := some ((u2, (0 : Int), (8 : Int), ()))
  cond (hide false) (some ((u2, (0 : Int), (1 : Int), ()))) (Option.bind (p192 N (v4) b0) fun rr0 => cond (hide !eqI rr0.1 (0 : Int)) (some ((u2, (0 : Int), Prod.fst rr0, ()))) (Option.bind (p108 N (v4)) fun rr1 => cond (hide !eqI (rr1.2.1) (0 : Int)) (some ((u2, (0 : Int), Prod.fst rr1.2, ()))) (cond (hide (ltI (64 : Int) (hide (wr (hide (wr ((↑s1.length : Int) + (↑v2.length : Int))) + (↑rr1.1.length : Int)))))) u1 (cond (hide (eqI v4.kind (1 : Int))) (cond (hide (eqI b0 (200 : Int))) u1 (some (((hide (wr (b0 + (1 : Int))), s1, v2, v3, ()), hide (wr (hide (wr (b0 + (1 : Int))) - (1 : Int))), (0 : Int), ())))) (cond (hide (eqI v4.kind (6 : Int))) (cond (hide (eqI (↑v3.length : Int) (200 : Int))) u1 (must (leN ((List.length v3 + List.length [Pr.mk v4.v0 v4.v1]) * (16 : Nat)) (140737488355328 : Nat)) (some (((b0, s1, v2, v3 ++ [Pr.mk v4.v0 v4.v1], ()), (0 : Int), (0 : Int), ()))))) (cond (hide (eqI v4.kind (7 : Int))) (cond (hide (eqI (↑s1.length : Int) (8 : Int))) u1 (must (leN ((List.length s1 + List.length rr1.1) * (280 : Nat)) (140737488355328 : Nat)) (some (((b0, s1 ++ Prod.fst rr1, v2, v3, ()), (0 : Int), (0 : Int), ()))))) (must (leN ((List.length v2 + List.length rr1.1) * (280 : Nat)) (140737488355328 : Nat)) (some (((b0, s1, v2 ++ Prod.fst rr1, v3, ()), (0 : Int), (0 : Int), ()))))))))))
def g114 (N : Nat) : Sg := sgIO 3 [(K.agg [.int, .ro .row, .ro .row, .ro .pair] rfl), (K.st .step)] [(K.agg [.int, .ro .row, .ro .row, .ro .pair] rfl), K.int, K.int] fun x => p114 N x.1.1 x.1.2.1 x.1.2.2.1 x.1.2.2.2.1 x.2.1
def zwx : List (Nat × Head) := [
    ]
def zwy (N : Nat) : List (Nat × Sg) := [(192, g192 N), (108, g108 N)]
theorem zpa (N : Nat) : zaN Try.prog pd.els (zwy N) := ⟨zug N, ⟨zoP N, trivial⟩⟩
theorem zpb (N : Nat) : SgOK Try.prog pd.els 114 (g114 N) :=
  zhZ zaO (zaj (zpa N)) Try.func114 (zar (by kernel_rfl)) 3 (by decide) [(K.agg [.int, .ro .row, .ro .row, .ro .pair] rfl), (K.st .step)] [(K.agg [.int, .ro .row, .ro .row, .ro .pair] rfl), K.int, K.int] _ N zwx 4 fun x => by kernel_rfl
def p117 (N : Nat) (b0 : Int) (v1 v2 : List Row) (v3 : List Pr) : Option ((Int × List Row × List Row × List Pr × Unit) × (Int × Int × List Row × List Pr × Unit) × Unit) :=
  cond (hide false) (some (((b0, v1, v2, v3, ()), ((0 : Int), (0 : Int), [], [], ()), ()))) (Option.bind (zfr N v1 v2) fun rr0 => Option.bind (p199 N v3) fun rr1 => some (((b0, v1, v2, v3, ()), ((↑v1.length : Int), b0, Prod.fst rr0, Prod.fst rr1, ()), ())))
def g117 (N : Nat) : Sg := sgIO 3 [(K.agg [.int, .ro .row, .ro .row, .ro .pair] rfl)] [(K.agg [.int, .ro .row, .ro .row, .ro .pair] rfl), (K.agg [.int, .int, .ro .row, .ro .pair] rfl)] fun x => p117 N x.1.1 x.1.2.1 x.1.2.2.1 x.1.2.2.2.1
def zwz : List (Nat × Head) := [
    ]
def zwA (N : Nat) : List (Nat × Sg) := [(2000198, zlW N), (199, g199 N)]
theorem zpc (N : Nat) : zaN Try.prog pd.els (zwA N) := ⟨zkC N, ⟨zt4 N, trivial⟩⟩
theorem zpd (N : Nat) : SgOK Try.prog pd.els 117 (g117 N) :=
  zhZ zaO (zaj (zpc N)) Try.func117 (zar (by kernel_rfl)) 3 (by decide) [(K.agg [.int, .ro .row, .ro .row, .ro .pair] rfl)] [(K.agg [.int, .ro .row, .ro .row, .ro .pair] rfl), (K.agg [.int, .int, .ro .row, .ro .pair] rfl)] _ N zwz 4 fun x => by kernel_rfl
def zgd (N : Nat) (A_1000 : Int -> Int -> Int -> (List Row) -> (List Pr) -> Option (Int × Unit)) (log3 ob0_0 ob0_1 : Int) (ob0_2 : List Row) (ob0_3 : List Pr) : Option (Int × Unit) :=
  cond (hide (ltI log3 (6 : Int))) (cond (hide (ltI (hide (shlI (1 : Int) (UInt64.toNat (hide (u64I log3))))) (↑ob0_2.length : Int))) (A_1000 (hide (wr (log3 + (1 : Int)))) ob0_0 ob0_1 ob0_2 ob0_3) (some ((log3, ())))) (some ((log3, ())))
def zge (N n : Nat) (log3 ob0_0 ob0_1 : Int) (ob0_2 : List Row) (ob0_3 : List Pr) : Option (Int × Unit) :=
  zap (fun A x => zgd N (fun log3 ob0_0 ob0_1 ob0_2 ob0_3 => A (((), (log3, ())), ((ob0_0, (ob0_1, (ob0_2, (ob0_3, ())))), ()))) x.1.2.1 x.2.1.1 x.2.1.2.1 x.2.1.2.2.1 x.2.1.2.2.2.1) n (((), (log3, ())), ((ob0_0, (ob0_1, (ob0_2, (ob0_3, ())))), ()))
def p120 (N : Nat) (c0 v1 : Int) (v2 : List Row) (v3 : List Pr) : Option (Int × Unit) :=
  zge N N (1 : Int) c0 v1 v2 v3
def g120 (N : Nat) : Sg := sgK [(K.agg [.int, .int, .ro .row, .ro .pair] rfl)] [K.int] fun x => p120 N x.1.1 x.1.2.1 x.1.2.2.1 x.1.2.2.2.1
def zwB : List (Nat × Head) := [
    (1000, ⟨⟨18, [(1, .u (.c (.ptr0 1001000000 0))), (3, .u (.c (.int)))], [(1001000000, ⟨false, 0, 80, .lit [.int, .int, .ro .row, .ro .pair]⟩)]⟩, .fall⟩)]
def zwC (N : Nat) : List (Nat × Sg) := []
theorem zpe (N : Nat) : zaN Try.prog pd.els (zwC N) := trivial
theorem zum (N : Nat) : SgOK Try.prog pd.els 120 (g120 N) :=
  zaJ zaO (zaj (zpe N)) Try.func120 (zar (by kernel_rfl)) [(K.agg [.int, .int, .ro .row, .ro .pair] rfl)] [K.int] _ N zwB 4 fun x => by kernel_rfl
def p112 (N : Nat) : Option (Bool × Unit) :=
  Option.bind (p113 N) fun rr0 => Option.bind (p114 N (Prod.fst (rr0.2.1)) (Prod.fst (Prod.snd (rr0.2.1))) (Prod.fst (Prod.snd (Prod.snd (rr0.2.1)))) (Prod.fst (Prod.snd (Prod.snd (Prod.snd (rr0.2.1))))) (Stp.mk (1 : Int) (0 : Int) (0 : Int) (0 : Int) (Fr.zero) (Fr.zero) (Fr.zero) (Fr.zero) (Fr.zero))) fun rr1 => Option.bind (p114 N (rr1.1.1) (Prod.fst (rr1.1.2)) (Prod.fst (Prod.snd (rr1.1.2))) (Prod.fst (Prod.snd (Prod.snd (rr1.1.2)))) (Stp.mk (1 : Int) (0 : Int) (0 : Int) (0 : Int) (Fr.zero) (Fr.zero) (Fr.zero) (Fr.zero) (Fr.zero))) fun rr2 => Option.bind (p114 N (rr2.1.1) (Prod.fst (rr2.1.2)) (Prod.fst (Prod.snd (rr2.1.2))) (Prod.fst (Prod.snd (Prod.snd (rr2.1.2)))) (Stp.mk (3 : Int) (0 : Int) (0 : Int) (0 : Int) (Fr.zero) (Fr.zero) (Fr.zero) (Fr.zero) (Fr.zero))) fun rr3 => Option.bind (p117 N (rr3.1.1) (Prod.fst (rr3.1.2)) (Prod.fst (Prod.snd (rr3.1.2))) (Prod.fst (Prod.snd (Prod.snd (rr3.1.2))))) fun rr4 => let w0 := Prod.snd (rr4.2.1); let w1 := Prod.fst (Prod.snd w0); cond (hide (eqI (Prod.fst (rr1.2.2)) (0 : Int))) (cond (hide (eqI (rr1.2.1) (0 : Int))) (cond (hide (eqI (Prod.fst (rr2.2.2)) (0 : Int))) (cond (hide (eqI (rr2.2.1) (1 : Int))) (cond (hide (eqI (Prod.fst (rr3.2.2)) (0 : Int))) (cond (hide (eqI (Prod.fst w0) (2 : Int))) (cond (hide (eqI (↑(List.length w1) : Int) (1 : Int))) (Option.bind (p120 N (Prod.fst (rr4.2.1)) (Prod.fst w0) w1 (Prod.fst (Prod.snd (Prod.snd w0)))) fun rr5 => cond (hide (eqI rr5.1 (1 : Int))) (Option.bind (p119 N (Prod.fst (rr4.2.1)) (Prod.fst w0) w1 (Prod.fst (Prod.snd (Prod.snd w0)))) fun rr6 => some ((hide (eqI rr6.1 (0 : Int)), ()))) (some ((false, ())))) (some ((false, ())))) (some ((false, ())))) (some ((false, ())))) (some ((false, ())))) (some ((false, ())))) (some ((false, ())))) (some ((false, ())))
def g112 (N : Nat) : Sg := sgK [] [K.bool] fun x => p112 N
def zwD : List (Nat × Head) := [
    ]
def zwE (N : Nat) : List (Nat × Sg) := [(113, g113 N), (114, g114 N), (117, g117 N), (120, g120 N), (119, g119 N)]
theorem zpf (N : Nat) : zaN Try.prog pd.els (zwE N) := ⟨zo9 N, ⟨zpb N, ⟨zpd N, ⟨zum N, ⟨zul N, trivial⟩⟩⟩⟩⟩
theorem zun (N : Nat) : SgOK Try.prog pd.els 112 (g112 N) :=
  zaJ zaO (zaj (zpf N)) Try.func112 (zar (by kernel_rfl)) [] [K.bool] _ N zwD 4 fun x => by kernel_rfl
def zpg (N : Nat) (A_9 : Int -> Int -> Int -> (List Row) -> (List Pr) -> Int -> Int -> (List Row) -> (List Pr) -> Option (Bool × Unit)) (i6 ob0_0 ob0_1 : Int) (ob0_2 : List Row) (ob0_3 : List Pr) (ob1_0 ob1_1 : Int) (ob1_2 : List Row) (ob1_3 : List Pr) : Option (Bool × Unit) :=
  cond (hide (ltI i6 (↑ob0_3.length : Int))) (must (leI (0 : Int) i6 && ltI i6 (↑ob0_3.length : Int)) (must (leI (0 : Int) i6 && ltI i6 (↑ob1_3.length : Int)) (cond (hide !eqL El.int [Pr.x (List.getD ob0_3 i6.toNat (Pr.mk (0 : Int) (0 : Int))), Pr.y (List.getD ob0_3 i6.toNat (Pr.mk (0 : Int) (0 : Int)))] [Pr.x (List.getD ob1_3 i6.toNat (Pr.mk (0 : Int) (0 : Int))), Pr.y (List.getD ob1_3 i6.toNat (Pr.mk (0 : Int) (0 : Int)))]) (some ((false, ()))) (A_9 (hide (wr (i6 + (1 : Int)))) ob0_0 ob0_1 ob0_2 ob0_3 ob1_0 ob1_1 ob1_2 ob1_3)))) (some ((true, ())))
def zph (N n : Nat) (i6 ob0_0 ob0_1 : Int) (ob0_2 : List Row) (ob0_3 : List Pr) (ob1_0 ob1_1 : Int) (ob1_2 : List Row) (ob1_3 : List Pr) : Option (Bool × Unit) :=
  zap (fun A x => zpg N (fun i6 ob0_0 ob0_1 ob0_2 ob0_3 ob1_0 ob1_1 ob1_2 ob1_3 => A (((), ((), (i6, ()))), ((ob0_0, (ob0_1, (ob0_2, (ob0_3, ())))), ((ob1_0, (ob1_1, (ob1_2, (ob1_3, ())))), ())))) x.1.2.2.1 x.2.1.1 x.2.1.2.1 x.2.1.2.2.1 x.2.1.2.2.2.1 x.2.2.1.1 x.2.2.1.2.1 x.2.2.1.2.2.1 x.2.2.1.2.2.2.1) n (((), ((), (i6, ()))), ((ob0_0, (ob0_1, (ob0_2, (ob0_3, ())))), ((ob1_0, (ob1_1, (ob1_2, (ob1_3, ())))), ())))
def zpi (N : Nat) (A_4 : Int -> Int -> Int -> (List Row) -> (List Pr) -> Int -> Int -> (List Row) -> (List Pr) -> Option (Bool × Unit)) (i5 ob0_0 ob0_1 : Int) (ob0_2 : List Row) (ob0_3 : List Pr) (ob1_0 ob1_1 : Int) (ob1_2 : List Row) (ob1_3 : List Pr) : Option (Bool × Unit) :=
  cond (hide (ltI i5 (↑ob0_2.length : Int))) (must (leI (0 : Int) i5 && ltI i5 (↑ob0_2.length : Int)) (must (leI (0 : Int) i5 && ltI i5 (↑ob1_2.length : Int)) (cond (hide !(zaS (List.getD ob0_2 i5.toNat zrow) (List.getD ob1_2 i5.toNat zrow))) (some ((false, ()))) (A_4 (hide (wr (i5 + (1 : Int)))) ob0_0 ob0_1 ob0_2 ob0_3 ob1_0 ob1_1 ob1_2 ob1_3)))) (zph N N (0 : Int) ob0_0 ob0_1 ob0_2 ob0_3 ob1_0 ob1_1 ob1_2 ob1_3)
def zpj (N n : Nat) (i5 ob0_0 ob0_1 : Int) (ob0_2 : List Row) (ob0_3 : List Pr) (ob1_0 ob1_1 : Int) (ob1_2 : List Row) (ob1_3 : List Pr) : Option (Bool × Unit) :=
  zap (fun A x => zpi N (fun i5 ob0_0 ob0_1 ob0_2 ob0_3 ob1_0 ob1_1 ob1_2 ob1_3 => A (((), ((), (i5, ()))), ((ob0_0, (ob0_1, (ob0_2, (ob0_3, ())))), ((ob1_0, (ob1_1, (ob1_2, (ob1_3, ())))), ())))) x.1.2.2.1 x.2.1.1 x.2.1.2.1 x.2.1.2.2.1 x.2.1.2.2.2.1 x.2.2.1.1 x.2.2.1.2.1 x.2.2.1.2.2.1 x.2.2.1.2.2.2.1) n (((), ((), (i5, ()))), ((ob0_0, (ob0_1, (ob0_2, (ob0_3, ())))), ((ob1_0, (ob1_1, (ob1_2, (ob1_3, ())))), ())))
def p116 (N : Nat) (a0 b1 : Int) (v2 : List Row) (v3 : List Pr) (v4 v5 : Int) (v6 : List Row) (v7 : List Pr) : Option (Bool × Unit) :=
  cond (hide !eqI a0 v4) (some ((false, ()))) (cond (hide !eqI b1 v5) (some ((false, ()))) (cond (hide !eqI (↑v2.length : Int) (↑v6.length : Int)) (some ((false, ()))) (cond (hide !eqI (↑v3.length : Int) (↑v7.length : Int)) (some ((false, ()))) (zpj N N (0 : Int) a0 b1 v2 v3 v4 v5 v6 v7))))
def g116 (N : Nat) : Sg := sgK [(K.agg [.int, .int, .ro .row, .ro .pair] rfl), (K.agg [.int, .int, .ro .row, .ro .pair] rfl)] [K.bool] fun x => p116 N x.1.1 x.1.2.1 x.1.2.2.1 x.1.2.2.2.1 x.2.1.1 x.2.1.2.1 x.2.1.2.2.1 x.2.1.2.2.2.1
def zwF : List (Nat × Head) := [
    (4, ⟨⟨73, [(2, .u (.c (.ptr0 5000000 0))), (3, .u (.c (.ptr0 5000001 0))), (5, .u (.c (.int)))], [(5000000, ⟨false, 0, 80, .lit [.int, .int, .ro .row, .ro .pair]⟩), (5000001, ⟨false, 0, 80, .lit [.int, .int, .ro .row, .ro .pair]⟩)]⟩, .exit 0⟩),
    (9, ⟨⟨73, [(2, .u (.c (.ptr0 10000000 0))), (3, .u (.c (.ptr0 10000001 0))), (6, .u (.c (.int)))], [(10000000, ⟨false, 0, 80, .lit [.int, .int, .ro .row, .ro .pair]⟩), (10000001, ⟨false, 0, 80, .lit [.int, .int, .ro .row, .ro .pair]⟩)]⟩, .exit 2⟩)]
def zwG (N : Nat) : List (Nat × Sg) := []
theorem zpk (N : Nat) : zaN Try.prog pd.els (zwG N) := trivial
theorem zuo (N : Nat) : SgOK Try.prog pd.els 116 (g116 N) :=
  zaJ zaO (zaj (zpk N)) Try.func116 (zar (by kernel_rfl)) [(K.agg [.int, .int, .ro .row, .ro .pair] rfl), (K.agg [.int, .int, .ro .row, .ro .pair] rfl)] [K.bool] _ N zwF 4 fun x => by kernel_rfl
end
section
def p218 (N : Nat) : Option (Fr × Unit) :=
  Option.bind (p173 N (1 : UInt64)) fun rr0 => some ((rr0.1, ()))
def g218 (N : Nat) : Sg := sgK [] [K.fr] fun x => p218 N
def zwH : List (Nat × Head) := [
    ]
def zwI (N : Nat) : List (Nat × Sg) := [(173, g173 N)]
theorem zpl (N : Nat) : zaN Try.prog pd.els (zwI N) := ⟨zko N, trivial⟩
theorem zup (N : Nat) : SgOK Try.prog pd.els 218 (g218 N) :=
  zaJ zaO (zaj (zpl N)) Try.func218 (zar (by kernel_rfl)) [] [K.fr] _ N zwH 4 fun x => by kernel_rfl
def zkD (N : Nat) (A_14 : Int -> Row -> (List Int) -> Option (List Row × Int × Unit)) (i7 : Int) (ob0 : Row) (ob1 : List Int) : Option (List Row × Int × Unit) :=
  let u1 := mxI (List.getD ob1 i7.toNat (0 : Int)) (-1 : Int)
  let u2 := (↑((0 : Nat) + (1 : Nat) + (1 : Nat)) : Int)
  let u3 := (↑((0 : Nat) + (1 : Nat)) : Int)
  let u4 := (↑(0 : Nat) : Int)
  cond (hide (ltI i7 (3 : Int))) (must (leI (0 : Int) i7 && ltI i7 (↑(3 : Nat) : Int)) (cond (eqI i7 u4) (must (eqI i7 u4) (A_14 (hide (wr (u4 + (1 : Int)))) (Row.mk (ob0.q0) (ob0.q1) (ob0.q2) (ob0.q3) (ob0.q4) (ob0.q5) (ob0.q6) (ob0.q7) u1 ob0.w1 ob0.w2) ob1)) (cond (eqI i7 u3) (must (eqI i7 u3) (A_14 (hide (wr (u3 + (1 : Int)))) (Row.mk (ob0.q0) (ob0.q1) (ob0.q2) (ob0.q3) (ob0.q4) (ob0.q5) (ob0.q6) (ob0.q7) ob0.w0 u1 ob0.w2) ob1)) (must (eqI i7 u2) (must (eqI i7 u2) (A_14 (hide (wr (u2 + (1 : Int)))) (Row.mk (ob0.q0) (ob0.q1) (ob0.q2) (ob0.q3) (ob0.q4) (ob0.q5) (ob0.q6) (ob0.q7) ob0.w0 ob0.w1 u1) ob1)))))) (some (([ob0], (0 : Int), ())))
def zkE (N n : Nat) (i7 : Int) (ob0 : Row) (ob1 : List Int) : Option (List Row × Int × Unit) :=
  zap (fun A x => zkD N (fun i7 ob0 ob1 => A (((), ((), (i7, ()))), (ob0, (ob1, ())))) x.1.2.2.1 x.2.1 x.2.2.1) n (((), ((), (i7, ()))), (ob0, (ob1, ())))
def zkF (N : Nat) (A_10 : Int -> Stp -> Row -> (List Int) -> Option (List Row × Int × Unit)) (i6 : Int) (ob0 : Stp) (ob1 : Row) (ob2 : List Int) : Option (List Row × Int × Unit) :=
  let u1 := cond (eqI i6 (↑((0 : Nat) + (1 : Nat) + (1 : Nat) + (1 : Nat) + (1 : Nat) + (1 : Nat)) : Int)) (none) (cond (eqI i6 (↑((0 : Nat) + (1 : Nat) + (1 : Nat) + (1 : Nat) + (1 : Nat) + (1 : Nat) + (1 : Nat)) : Int)) (none) (must (eqI i6 (↑((0 : Nat) + (1 : Nat) + (1 : Nat) + (1 : Nat) + (1 : Nat) + (1 : Nat) + (1 : Nat) + (1 : Nat)) : Int)) (none)))
  let u2 := (↑((0 : Nat) + (1 : Nat) + (1 : Nat) + (1 : Nat) + (1 : Nat)) : Int)
  let u3 := (↑((0 : Nat) + (1 : Nat) + (1 : Nat) + (1 : Nat)) : Int)
  let u8 := (↑((0 : Nat) + (1 : Nat) + (1 : Nat)) : Int)
  let u4 := eqI i6 u8
  let u11 := (↑((0 : Nat) + (1 : Nat)) : Int)
  let u5 := eqI i6 u11
  let u6 := eqI i6 (↑(0 : Nat) : Int)
  let u9 := eqI i6 u3
  let u10 := eqI i6 u2
  let u7 := cond u9 (none) (cond u10 (none) u1)
  cond (hide (ltI i6 (5 : Int))) (cond u6 (must u6 (cond u6 (A_10 (hide (wr ((↑(0 : Nat) : Int) + (1 : Int)))) (ob0) (Row.mk (ob0.q0) (ob1.q1) (ob1.q2) (ob1.q3) (ob1.q4) (ob1.q5) (ob1.q6) (ob1.q7) ob1.w0 ob1.w1 ob1.w2) ob2) (cond u5 (none) (cond u4 (none) u7)))) (cond u5 (must u5 (cond u6 (none) (cond u5 (A_10 (hide (wr (u11 + (1 : Int)))) (ob0) (Row.mk (ob1.q0) (ob0.q1) (ob1.q2) (ob1.q3) (ob1.q4) (ob1.q5) (ob1.q6) (ob1.q7) ob1.w0 ob1.w1 ob1.w2) ob2) (cond u4 (none) u7)))) (cond u4 (must u4 (cond u6 (none) (cond u5 (none) (cond u4 (A_10 (hide (wr (u8 + (1 : Int)))) (ob0) (Row.mk (ob1.q0) (ob1.q1) (ob0.q2) (ob1.q3) (ob1.q4) (ob1.q5) (ob1.q6) (ob1.q7) ob1.w0 ob1.w1 ob1.w2) ob2) u7)))) (cond u9 (must u9 (cond u6 (none) (cond u5 (none) (cond u4 (none) (cond u9 (A_10 (hide (wr (u3 + (1 : Int)))) (ob0) (Row.mk (ob1.q0) (ob1.q1) (ob1.q2) (ob0.q3) (ob1.q4) (ob1.q5) (ob1.q6) (ob1.q7) ob1.w0 ob1.w1 ob1.w2) ob2) (cond u10 (none) u1)))))) (must u10 (must u10 (cond u6 (none) (cond u5 (none) (cond u4 (none) (cond u9 (none) (cond u10 (A_10 (hide (wr (u2 + (1 : Int)))) (ob0) (Row.mk (ob1.q0) (ob1.q1) (ob1.q2) (ob1.q3) (ob0.q4) (ob1.q5) (ob1.q6) (ob1.q7) ob1.w0 ob1.w1 ob1.w2) ob2) u1))))))))))) (zkE N N (0 : Int) (ob1) ob2)
def zkG (N n : Nat) (i6 : Int) (ob0 : Stp) (ob1 : Row) (ob2 : List Int) : Option (List Row × Int × Unit) :=
  zap (fun A x => zkF N (fun i6 ob0 ob1 ob2 => A (((), ((), ((), (i6, ())))), (ob0, (ob1, (ob2, ()))))) x.1.2.2.2.1 x.2.1 x.2.2.1 x.2.2.2.1) n (((), ((), ((), (i6, ())))), (ob0, (ob1, (ob2, ()))))
def p197 (N : Nat) (s0 : Stp) : Option (List Row × Int × Unit) :=
  let u1 := Fr.zero
  let u2 := zkG N N (0 : Int) (s0) (Row.mk u1 u1 u1 u1 u1 u1 u1 u1 (-1 : Int) (-1 : Int) (-1 : Int)) ([Stp.v0 s0, Stp.v1 s0, Stp.v2 s0])
  let u3 := hide (eqI s0.kind (1 : Int))
  let u4 := hide (eqI s0.kind (2 : Int))
  let u5 := hide (eqI s0.kind (3 : Int))
  let u6 := hide (eqI s0.kind (4 : Int))
  let u7 := hide (eqI s0.kind (7 : Int))
  let u8 := hide (eqI s0.kind (5 : Int))
  let u9 := some (([], (11 : Int), ()))
  let u10 := some (([], (0 : Int), ()))
  cond u3 (cond u3 u10 (cond u4 u2 (cond u5 (Option.bind (p218 N) fun rr7 => some (([Row.mk u1 u1 u1 u1 u1 (rr7.1) u1 u1 s0.v0 (-1 : Int) (-1 : Int)], (0 : Int), ()))) (cond u6 (Option.bind (p218 N) fun rr6 => some (([Row.mk u1 u1 u1 u1 u1 u1 (rr6.1) u1 s0.v0 (-1 : Int) s0.v2], (0 : Int), ()))) (cond u7 (Option.bind (p218 N) fun rr5 => some (([Row.mk u1 (rr5.1) u1 u1 u1 u1 u1 u1 s0.v0 (-1 : Int) (-1 : Int)], (0 : Int), ()))) (cond u8 (Option.bind (p218 N) fun rr4 => some (([Row.mk u1 u1 u1 u1 u1 u1 u1 (rr4.1) s0.v0 s0.v1 (-1 : Int), Row.mk u1 u1 u1 u1 u1 u1 u1 u1 s0.v2 (-1 : Int) (-1 : Int)], (0 : Int), ()))) u9)))))) (cond (hide (eqI s0.kind (6 : Int))) u10 (cond u4 u2 (cond u5 (Option.bind (p218 N) fun rr3 => some (([Row.mk u1 u1 u1 u1 u1 (rr3.1) u1 u1 s0.v0 (-1 : Int) (-1 : Int)], (0 : Int), ()))) (cond u6 (Option.bind (p218 N) fun rr2 => some (([Row.mk u1 u1 u1 u1 u1 u1 (rr2.1) u1 s0.v0 (-1 : Int) s0.v2], (0 : Int), ()))) (cond u7 (Option.bind (p218 N) fun rr1 => some (([Row.mk u1 (rr1.1) u1 u1 u1 u1 u1 u1 s0.v0 (-1 : Int) (-1 : Int)], (0 : Int), ()))) (cond u8 (Option.bind (p218 N) fun rr0 => some (([Row.mk u1 u1 u1 u1 u1 u1 u1 (rr0.1) s0.v0 s0.v1 (-1 : Int), Row.mk u1 u1 u1 u1 u1 u1 u1 u1 s0.v2 (-1 : Int) (-1 : Int)], (0 : Int), ()))) u9))))))
def g197 (N : Nat) : Sg := sgK [(K.st .step)] [(K.ro .row), K.int] fun x => p197 N x.1
def zwJ : List (Nat × Head) := [
    (10, ⟨⟨93, [(1, .u (.c (.ptr0 11000000 0))), (4, .u (.c (.ptr0 11000001 0))), (5, .u (.c (.ptr0 11000002 0))), (6, .u (.c (.int)))], [(11000000, ⟨false, 0, 112, .st .step⟩), (11000001, ⟨false, 0, 116, .st .row⟩), (11000002, ⟨false, 3, 110, .vec .int⟩)]⟩, .exit 1⟩),
    (14, ⟨⟨93, [(4, .u (.c (.ptr0 15000000 0))), (5, .u (.c (.ptr0 15000001 0))), (7, .u (.c (.int)))], [(15000000, ⟨false, 0, 116, .st .row⟩), (15000001, ⟨false, 3, 110, .vec .int⟩)]⟩, .exit 3⟩)]
def zwK (N : Nat) : List (Nat × Sg) := [(218, g218 N)]
theorem zpm (N : Nat) : zaN Try.prog pd.els (zwK N) := ⟨zup N, trivial⟩
theorem zuq (N : Nat) : SgOK Try.prog pd.els 197 (g197 N) :=
  zaJ zaO (zaj (zpm N)) Try.func197 (zar (by kernel_rfl)) [(K.st .step)] [(K.ro .row), K.int] _ N zwJ 4 fun x => by kernel_rfl
end
section
structure F5 where
  (k0 k1 k2 k3 k4 : Fr)
def F5.l (x : F5) : List Fr := [x.k0, x.k1, x.k2, x.k3, x.k4]
def F5.of? (l : List Fr) : Option F5 := match l with
  | [a, b, c, d, e] => some ⟨a, b, c, d, e⟩
  | _ => none
theorem F5.of_ok {l : List Fr} {x : F5} (h : F5.of? l = some x) : l = x.l := by
  unfold F5.of? at h
  split at h
  . cases h; rfl
  . cases h
def K.bl3 : K := ⟨TCs [.int, .ro .row, .ro .row] × Nat, fun x => .agg (zck [.int, .ro .row, .ro .row] x.1 ++ [.len x.2]), fun u => match u with
  | .agg xs => match zd0 [.int, .ro .row, .ro .row] (xs.take 3), xs.drop 3 with
    | some y, [.len n] => some (y, n)
    | _, _ => none
  | _ => none, fun u x h => by
  split at h
  . rename_i xs
    split at h
    . rename_i y n h1 h2
      cases h
      have h3 := zg8 (l := [.int, .ro .row, .ro .row]) rfl h1
      rw [← h3, ← h2, List.take_append_drop]
    . cases h
  . cases h⟩
end
section
def zkH (N : Nat) (A_10 : Int -> Int -> Stp -> (List Bool) -> Option (Int × Unit)) (vars1 i7 : Int) (ob0 : Stp) (ob1 : List Bool) : Option (Int × Unit) :=
  let u1 := (↑((0 : Nat) + (1 : Nat) + (1 : Nat)) : Int)
  let u2 := some (((10 : Int), ()))
  let u3 := (↑((0 : Nat) + (1 : Nat)) : Int)
  let u8 := (↑(0 : Nat) : Int)
  let u4 := A_10 vars1 (hide (wr (u8 + (1 : Int)))) (ob0) ob1
  let u5 := hide !eqI ob0.kind (2 : Int)
  let u6 := A_10 vars1 (hide (wr (u3 + (1 : Int)))) (ob0) ob1
  let u7 := A_10 vars1 (hide (wr (u1 + (1 : Int)))) (ob0) ob1
  cond (hide (ltI i7 (3 : Int))) (must (leI (0 : Int) i7 && ltI i7 (↑(3 : Nat) : Int)) (cond (List.getD ob1 i7.toNat false) (cond (eqI i7 u8) (must (eqI i7 u8) (cond (hide (leI vars1 ob0.v0)) u2 (cond (hide (ltI ob0.v0 (0 : Int))) (cond u5 u2 u4) u4))) (cond (eqI i7 u3) (must (eqI i7 u3) (cond (hide (leI vars1 ob0.v1)) u2 (cond (hide (ltI ob0.v1 (0 : Int))) (cond u5 u2 u6) u6))) (must (eqI i7 u1) (must (eqI i7 u1) (cond (hide (leI vars1 ob0.v2)) u2 (cond (hide (ltI ob0.v2 (0 : Int))) (cond u5 u2 u7) u7)))))) (A_10 vars1 (hide (wr (i7 + (1 : Int)))) (ob0) ob1))) (some (((0 : Int), ())))
def zeL (N n : Nat) (vars1 i7 : Int) (ob0 : Stp) (ob1 : List Bool) : Option (Int × Unit) :=
  zap (fun A x => zkH N (fun vars1 i7 ob0 ob1 => A ((vars1, ((), ((), (i7, ())))), (ob0, (ob1, ())))) x.1.1 x.1.2.2.2.1 x.2.1 x.2.2.1) n ((vars1, ((), ((), (i7, ())))), (ob0, (ob1, ())))
def zpn (N : Nat) (A_4 : Int -> Int -> Stp -> Option (Int × Unit)) (vars1 i5 : Int) (ob0 : Stp) : Option (Int × Unit) :=
  let u9 := hide (eqI ob0.kind (2 : Int))
  let u4 := ltI (1 : Int) ob0.kind
  let u10 := zeL N N vars1 (0 : Int) (ob0) ([hide u4, true, true])
  let u13 := hide (eqI ob0.kind (4 : Int))
  let u11 := eqI ob0.kind (5 : Int)
  let u1 := cond u9 u10 (cond u13 u10 (zeL N N vars1 (0 : Int) (ob0) ([hide u4, true, hide u11])))
  let u2 := (↑((0 : Nat) + (1 : Nat) + (1 : Nat) + (1 : Nat) + (1 : Nat)) : Int)
  let u3 := (↑((0 : Nat) + (1 : Nat) + (1 : Nat) + (1 : Nat)) : Int)
  let u5 := (↑((0 : Nat) + (1 : Nat) + (1 : Nat)) : Int)
  let u6 := some (((4 : Int), ()))
  let u7 := zeL N N vars1 (0 : Int) (ob0) ([hide u4, hide (eqI ob0.kind (6 : Int)), true])
  let u8 := (↑((0 : Nat) + (1 : Nat)) : Int)
  let u12 := (↑(0 : Nat) : Int)
  cond (hide (ltI i5 (5 : Int))) (cond (eqI i5 u12) (must (eqI i5 u12) (Option.bind (p69 N (ob0.q0)) fun rr4 => cond (hide !rr4.1) u6 (A_4 vars1 (hide (wr (u12 + (1 : Int)))) (ob0)))) (cond (eqI i5 u8) (must (eqI i5 u8) (Option.bind (p69 N (ob0.q1)) fun rr3 => cond (hide !rr3.1) u6 (A_4 vars1 (hide (wr (u8 + (1 : Int)))) (ob0)))) (cond (eqI i5 u5) (must (eqI i5 u5) (Option.bind (p69 N (ob0.q2)) fun rr2 => cond (hide !rr2.1) u6 (A_4 vars1 (hide (wr (u5 + (1 : Int)))) (ob0)))) (cond (eqI i5 u3) (must (eqI i5 u3) (Option.bind (p69 N (ob0.q3)) fun rr1 => cond (hide !rr1.1) u6 (A_4 vars1 (hide (wr (u3 + (1 : Int)))) (ob0)))) (must (eqI i5 u2) (must (eqI i5 u2) (Option.bind (p69 N (ob0.q4)) fun rr0 => cond (hide !rr0.1) u6 (A_4 vars1 (hide (wr (u2 + (1 : Int)))) (ob0))))))))) (cond u9 u1 (cond (hide u11) u1 (cond u9 u7 (cond u13 u7 (zeL N N vars1 (0 : Int) (ob0) ([hide u4, hide (eqI ob0.kind (6 : Int)), hide u11]))))))
def zpo (N n : Nat) (vars1 i5 : Int) (ob0 : Stp) : Option (Int × Unit) :=
  zap (fun A x => zpn N (fun vars1 i5 ob0 => A ((vars1, ((), (i5, ()))), (ob0, ()))) x.1.1 x.1.2.2.1 x.2.1) n ((vars1, ((), (i5, ()))), (ob0, ()))
def p196 (N : Nat) (s0 : Stp) (vars1 : Int) : Option (Int × Unit) :=
  cond (hide (ltI s0.kind (1 : Int))) (some (((11 : Int), ()))) (cond (hide (ltI (7 : Int) s0.kind)) (some (((11 : Int), ()))) (zpo N N vars1 (0 : Int) (s0)))
def g196 (N : Nat) : Sg := sgK [(K.st .step), K.int] [K.int] fun x => p196 N x.1 x.2.1
def zwL : List (Nat × Head) := [
    (4, ⟨⟨83, [(1, .u (.c (.int))), (2, .u (.c (.ptr0 5000000 0))), (5, .u (.c (.int)))], [(5000000, ⟨false, 0, 112, .st .step⟩)]⟩, .exit 0⟩),
    (10, ⟨⟨83, [(1, .u (.c (.int))), (2, .u (.c (.ptr0 11000000 0))), (6, .u (.c (.ptr0 11000001 0))), (7, .u (.c (.int)))], [(11000000, ⟨false, 0, 112, .st .step⟩), (11000001, ⟨false, 3, 212, .vec .bool⟩)]⟩, .exit 2⟩)]
def zwM (N : Nat) : List (Nat × Sg) := [(69, g69 N)]
theorem zpp (N : Nat) : zaN Try.prog pd.els (zwM N) := ⟨zvW N, trivial⟩
theorem zur (N : Nat) : SgOK Try.prog pd.els 196 (g196 N) :=
  zaJ zaO (zaj (zpp N)) Try.func196 (zar (by kernel_rfl)) [(K.st .step), K.int] [K.int] _ N zwL 4 fun x => by kernel_rfl
def p115 (N : Nat) (b0 : Int) (s1 v2 : List Row) (v3 : List Pr) (v4 : Stp) : Option ((Int × List Row × List Row × List Pr × Unit) × Int × Int × Unit) :=
  let u1 := some (((b0, s1, v2, v3, ()), (0 : Int), (8 : Int), ()))
  Option.bind (p196 N (v4) b0) fun rr0 => cond (hide !eqI rr0.1 (0 : Int)) (some (((b0, s1, v2, v3, ()), (0 : Int), Prod.fst rr0, ()))) (Option.bind (p197 N (v4)) fun rr1 => cond (hide (ltI (64 : Int) (hide (wr (hide (wr ((↑s1.length : Int) + (↑v2.length : Int))) + (↑rr1.1.length : Int)))))) u1 (cond (hide (eqI v4.kind (1 : Int))) (cond (hide (leI (200 : Int) b0)) u1 (some (((hide (wr (b0 + (1 : Int))), s1, v2, v3, ()), hide (wr (hide (wr (b0 + (1 : Int))) - (1 : Int))), (0 : Int), ())))) (cond (hide (eqI v4.kind (6 : Int))) (cond (hide (leI (200 : Int) (↑v3.length : Int))) u1 (must (leN (((0 : Nat) + List.length v3) * (16 : Nat)) (140737488355328 : Nat)) (must (leN ((List.length v3 + List.length [Pr.mk v4.v0 v4.v1]) * (16 : Nat)) (140737488355328 : Nat)) (some (((b0, s1, v2, v3 ++ [Pr.mk v4.v0 v4.v1], ()), (0 : Int), (0 : Int), ())))))) (cond (hide (eqI v4.kind (7 : Int))) (cond (hide (leI (8 : Int) (↑s1.length : Int))) u1 (must (leN (((0 : Nat) + List.length s1) * (280 : Nat)) (140737488355328 : Nat)) (must (leN ((List.length s1 + List.length rr1.1) * (280 : Nat)) (140737488355328 : Nat)) (some (((b0, s1 ++ Prod.fst rr1, v2, v3, ()), (0 : Int), (0 : Int), ())))))) (must (leN (((0 : Nat) + List.length v2) * (280 : Nat)) (140737488355328 : Nat)) (must (leN ((List.length v2 + List.length rr1.1) * (280 : Nat)) (140737488355328 : Nat)) (some (((b0, s1, v2 ++ Prod.fst rr1, v3, ()), (0 : Int), (0 : Int), ())))))))))
def g115 (N : Nat) : Sg := sgIO 3 [(K.agg [.int, .ro .row, .ro .row, .ro .pair] rfl), (K.st .step)] [(K.agg [.int, .ro .row, .ro .row, .ro .pair] rfl), K.int, K.int] fun x => p115 N x.1.1 x.1.2.1 x.1.2.2.1 x.1.2.2.2.1 x.2.1
def zwN : List (Nat × Head) := [
    ]
def zwO (N : Nat) : List (Nat × Sg) := [(196, g196 N), (197, g197 N)]
theorem zpq (N : Nat) : zaN Try.prog pd.els (zwO N) := ⟨zur N, ⟨zuq N, trivial⟩⟩
theorem zus (N : Nat) : SgOK Try.prog pd.els 115 (g115 N) :=
  zhZ zaO (zaj (zpq N)) Try.func115 (zar (by kernel_rfl)) 3 (by decide) [(K.agg [.int, .ro .row, .ro .row, .ro .pair] rfl), (K.st .step)] [(K.agg [.int, .ro .row, .ro .row, .ro .pair] rfl), K.int, K.int] _ N zwN 4 fun x => by kernel_rfl
def p118 (N : Nat) (b0 : Int) (v1 v2 : List Row) (v3 : List Pr) : Option (((Int × List Row × List Row × Unit) × Nat) × (Int × Int × List Row × List Pr × Unit) × Unit) :=
  must (leN (((0 : Nat) + List.length v1) * (280 : Nat)) (140737488355328 : Nat)) (must (leN ((List.length v1 + List.length v2) * (280 : Nat)) (140737488355328 : Nat)) (some ((((b0, v1, v2, ()), List.length v3), ((↑v1.length : Int), b0, v1 ++ v2, v3, ()), ()))))
def g118 (N : Nat) : Sg := sgIO 6 [(K.agg [.int, .ro .row, .ro .row, .ro .pair] rfl)] [K.bl3, (K.agg [.int, .int, .ro .row, .ro .pair] rfl)] fun x => p118 N x.1.1 x.1.2.1 x.1.2.2.1 x.1.2.2.2.1
def zwP : List (Nat × Head) := [
    ]
def zwQ (N : Nat) : List (Nat × Sg) := []
theorem zpr (N : Nat) : zaN Try.prog pd.els (zwQ N) := trivial
theorem zut (N : Nat) : SgOK Try.prog pd.els 118 (g118 N) :=
  zh0 zaO (zaj (zpr N)) Try.func118 (zar (by kernel_rfl)) 6 (by decide) [(K.agg [.int, .ro .row, .ro .row, .ro .pair] rfl)] [K.bl3, (K.agg [.int, .int, .ro .row, .ro .pair] rfl)] _ N zwP 4 fun x => by kernel_rfl
def p186 (N : Nat) (l0 : Int) (n1 : List UInt8) (m2 : Int) : Option ((Int × Unit) × Int × Unit) :=
  cond (hide (leI (↑n1.length : Int) l0)) (some (((l0, ()), (0 : Int), ()))) (must (leI (0 : Int) (hide (wr (hide (wr (l0 + (1 : Int))) - (1 : Int)))) && ltI (hide (wr (hide (wr (l0 + (1 : Int))) - (1 : Int)))) (↑n1.length : Int)) (must (!eqI m2 (0 : Int)) (some (((hide (wr (l0 + (1 : Int))), ()), hide (Int.tmod (hide (↑(UInt8.toNat (List.getD n1 (Int.toNat (hide (wr (hide (wr (l0 + (1 : Int))) - (1 : Int))))) (0 : UInt8))) : Int)) m2), ())))))
def g186 (N : Nat) : Sg := sgIO 4 [(K.agg [.int] rfl), (K.ro .u8), K.int] [(K.agg [.int] rfl), K.int] fun x => p186 N x.1.1 x.2.1 x.2.2.1
def zwR : List (Nat × Head) := [
    ]
def zwS (N : Nat) : List (Nat × Sg) := []
theorem zps (N : Nat) : zaN Try.prog pd.els (zwS N) := trivial
theorem zuu (N : Nat) : SgOK Try.prog pd.els 186 (g186 N) :=
  zh0 zaO (zaj (zps N)) Try.func186 (zar (by kernel_rfl)) 4 (by decide) [(K.agg [.int] rfl), (K.ro .u8), K.int] [(K.agg [.int] rfl), K.int] _ N zwR 4 fun x => by kernel_rfl
def p187 (N : Nat) (m0 b1 : Int) (s2 : List Row) (val3 : List Pr) (v4 v5 : List Fr) (v6 : List Stp) (v7 : Int) (v8 v9 : List Row) (v10 : List Pr) (v11 : Stp) (v12 : Fr) : Option ((Int × Int × List Row × List Pr × List Fr × List Fr × List Stp × Unit) × (Int × List Row × List Row × List Pr × Unit) × Int × Unit) :=
  Option.bind (p115 N v7 v8 v9 v10 (v11)) fun rr0 => cond (hide !eqI (Prod.fst (rr0.2.2)) (0 : Int)) (some (((m0, b1, s2, val3, v4, v5, v6, ()), (Prod.fst rr0.1, Prod.fst (rr0.1.2), Prod.fst (Prod.snd (rr0.1.2)), Prod.fst (Prod.snd (Prod.snd (rr0.1.2))), ()), (0 : Int), ()))) (must (leN ((List.length v6 + List.length [v11]) * (192 : Nat)) (140737488355328 : Nat)) (cond (hide (eqI v11.kind (1 : Int))) (must (leN ((List.length v5 + List.length [v12]) * (32 : Nat)) (140737488355328 : Nat)) (some (((m0, b1, s2, val3, v4, v5 ++ [v12], v6 ++ [v11], ()), (Prod.fst rr0.1, Prod.fst (rr0.1.2), Prod.fst (Prod.snd (rr0.1.2)), Prod.fst (Prod.snd (Prod.snd (rr0.1.2))), ()), Prod.fst rr0.2, ())))) (some (((m0, b1, s2, val3, v4, v5, v6 ++ [v11], ()), (Prod.fst rr0.1, Prod.fst (rr0.1.2), Prod.fst (Prod.snd (rr0.1.2)), Prod.fst (Prod.snd (Prod.snd (rr0.1.2))), ()), Prod.fst rr0.2, ())))))
def g187 (N : Nat) : Sg := sgIO 5 [(K.agg [.int, .int, .ro .row, .ro .pair, .ro .fr, .ro .fr, .ro .step] rfl), (K.agg [.int, .ro .row, .ro .row, .ro .pair] rfl), (K.st .step), K.fr] [(K.agg [.int, .int, .ro .row, .ro .pair, .ro .fr, .ro .fr, .ro .step] rfl), (K.agg [.int, .ro .row, .ro .row, .ro .pair] rfl), K.int] fun x => p187 N x.1.1 x.1.2.1 x.1.2.2.1 x.1.2.2.2.1 x.1.2.2.2.2.1 x.1.2.2.2.2.2.1 x.1.2.2.2.2.2.2.1 x.2.1.1 x.2.1.2.1 x.2.1.2.2.1 x.2.1.2.2.2.1 x.2.2.1 x.2.2.2.1
def zwT : List (Nat × Head) := [
    ]
def zwU (N : Nat) : List (Nat × Sg) := [(115, g115 N)]
theorem zpt (N : Nat) : zaN Try.prog pd.els (zwU N) := ⟨zus N, trivial⟩
theorem zpu (N : Nat) : SgOK Try.prog pd.els 187 (g187 N) :=
  zh0 zaO (zaj (zpt N)) Try.func187 (zar (by kernel_rfl)) 5 (by decide) [(K.agg [.int, .int, .ro .row, .ro .pair, .ro .fr, .ro .fr, .ro .step] rfl), (K.agg [.int, .ro .row, .ro .row, .ro .pair] rfl), (K.st .step), K.fr] [(K.agg [.int, .int, .ro .row, .ro .pair, .ro .fr, .ro .fr, .ro .step] rfl), (K.agg [.int, .ro .row, .ro .row, .ro .pair] rfl), K.int] _ N zwT 4 fun x => by kernel_rfl
def p185 (N : Nat) (m0 b1 : Int) (val2 : List Row) (v3 : List Pr) (v4 v5 : List Fr) (v6 : List Stp) (v7 : Int) (v8 v9 : List Row) (v10 : List Pr) (v11 : Fr) : Option ((Int × Int × List Row × List Pr × List Fr × List Fr × List Stp × Unit) × (Int × List Row × List Row × List Pr × Unit) × Int × Unit) :=
  let u1 := Fr.zero
  Option.bind (p187 N m0 b1 val2 v3 v4 v5 v6 v7 v8 v9 v10 (Stp.mk (1 : Int) (0 : Int) (0 : Int) (0 : Int) u1 u1 u1 u1 u1) (v11)) fun rr0 => some (((Prod.fst rr0.1, Prod.fst (rr0.1.2), Prod.fst (Prod.snd (rr0.1.2)), Prod.fst (Prod.snd (Prod.snd (rr0.1.2))), Prod.fst (Prod.snd (Prod.snd (Prod.snd (rr0.1.2)))), Prod.fst (Prod.snd (Prod.snd (Prod.snd (Prod.snd (rr0.1.2))))), Prod.fst (Prod.snd (Prod.snd (Prod.snd (Prod.snd (Prod.snd (rr0.1.2)))))), ()), (Prod.fst (rr0.2.1), Prod.fst (Prod.snd (rr0.2.1)), Prod.fst (Prod.snd (Prod.snd (rr0.2.1))), Prod.fst (Prod.snd (Prod.snd (Prod.snd (rr0.2.1)))), ()), Prod.fst (rr0.2.2), ()))
def g185 (N : Nat) : Sg := sgIO 5 [(K.agg [.int, .int, .ro .row, .ro .pair, .ro .fr, .ro .fr, .ro .step] rfl), (K.agg [.int, .ro .row, .ro .row, .ro .pair] rfl), K.fr] [(K.agg [.int, .int, .ro .row, .ro .pair, .ro .fr, .ro .fr, .ro .step] rfl), (K.agg [.int, .ro .row, .ro .row, .ro .pair] rfl), K.int] fun x => p185 N x.1.1 x.1.2.1 x.1.2.2.1 x.1.2.2.2.1 x.1.2.2.2.2.1 x.1.2.2.2.2.2.1 x.1.2.2.2.2.2.2.1 x.2.1.1 x.2.1.2.1 x.2.1.2.2.1 x.2.1.2.2.2.1 x.2.2.1
def zwV : List (Nat × Head) := [
    ]
def zwW (N : Nat) : List (Nat × Sg) := [(187, g187 N)]
theorem zpv (N : Nat) : zaN Try.prog pd.els (zwW N) := ⟨zpu N, trivial⟩
theorem zuv (N : Nat) : SgOK Try.prog pd.els 185 (g185 N) :=
  zh0 zaO (zaj (zpv N)) Try.func185 (zar (by kernel_rfl)) 5 (by decide) [(K.agg [.int, .int, .ro .row, .ro .pair, .ro .fr, .ro .fr, .ro .step] rfl), (K.agg [.int, .ro .row, .ro .row, .ro .pair] rfl), K.fr] [(K.agg [.int, .int, .ro .row, .ro .pair, .ro .fr, .ro .fr, .ro .step] rfl), (K.agg [.int, .ro .row, .ro .row, .ro .pair] rfl), K.int] _ N zwV 4 fun x => by kernel_rfl
def zuw (N : Nat) (A_8 : (List UInt8) -> Int -> Int -> Int -> Int -> Int -> Int -> Int -> Int -> Fr -> (List Row) -> (List Pr) -> (List Fr) -> (List Fr) -> (List Stp) -> (List Row) -> (List Pr) -> (List Fr) -> (List Fr) -> (List Stp) -> (List Row) -> (List Row) -> (List Pr) -> Option ((Int × Int × List Row × List Pr × List Fr × List Fr × List Stp × Unit) × Unit)) (l0 : List UInt8) (most1 g9 ob0_0 ob0_1 ob1_0 ob1_1 ob2_0 ob3_0 : Int) (ob4 : Fr) (ob5 : List Row) (ob6 : List Pr) (ob7 ob8 : List Fr) (ob9 : List Stp) (ob10 : List Row) (ob11 : List Pr) (ob12 ob13 : List Fr) (ob14 : List Stp) (ob15 ob16 : List Row) (ob17 : List Pr) : Option ((Int × Int × List Row × List Pr × List Fr × List Fr × List Stp × Unit) × Unit) :=
  cond (hide (ltI g9 most1)) (cond (hide (ltI ob2_0 (↑l0.length : Int))) (Option.bind (p186 N ob2_0 l0 ((↑ob13.length : Int))) fun rr2 => let w2 := rr2.2.1; let w0 := List.getD ob13 (Int.toNat w2) (Fr.zero); let w1 := Fr.mk (Fr.a0 w0) (Fr.a1 w0) (Fr.a2 w0) (Fr.a3 w0); Option.bind (p186 N (rr2.1.1) l0 ((↑ob13.length : Int))) fun rr3 => let w3 := List.getD ob13 (Int.toNat (rr3.2.1)) (Fr.zero); let w4 := Fr.mk (Fr.a0 w3) (Fr.a1 w3) (Fr.a2 w3) (Fr.a3 w3); must (leI (0 : Int) w2 && ltI w2 (↑ob13.length : Int)) (must (leI (0 : Int) (rr3.2.1) && ltI (rr3.2.1) (↑ob13.length : Int)) (Option.bind (p186 N (rr3.1.1) l0 (7 : Int)) fun rr4 => let w5 := rr4.1.1; cond (hide (eqI (rr4.2.1) (0 : Int))) (Option.bind (p186 N w5 l0 (9 : Int)) fun rr20 => Option.bind (p173 N (hide (u64I (rr20.2.1)))) fun rr21 => Option.bind (p94 N w1 w4) fun rr22 => Option.bind (p94 N (rr21.1) w1) fun rr23 => Option.bind (p81 N (rr22.1) (rr23.1)) fun rr24 => Option.bind (p173 N (5 : UInt64)) fun rr25 => Option.bind (p81 N (rr24.1) (rr25.1)) fun rr26 => Option.bind (p185 N ob1_0 ob1_1 ob10 ob11 ob12 ob13 ob14 ob3_0 ob15 ob16 ob17 (rr26.1)) fun rr27 => let w6 := Prod.snd (Prod.snd (rr27.1.2)); Option.bind (p85 N (ob4)) fun rr28 => Option.bind (p173 N (5 : UInt64)) fun rr29 => Option.bind (p187 N (rr27.1.1) (Prod.fst (rr27.1.2)) (Prod.fst (Prod.snd (rr27.1.2))) (Prod.fst w6) (Prod.fst (Prod.snd w6)) (Prod.fst (Prod.snd (Prod.snd w6))) (Prod.fst (Prod.snd (Prod.snd (Prod.snd w6)))) (Prod.fst (rr27.2.1)) (Prod.fst (Prod.snd (rr27.2.1))) (Prod.fst (Prod.snd (Prod.snd (rr27.2.1)))) (Prod.fst (Prod.snd (Prod.snd (Prod.snd (rr27.2.1))))) (Stp.mk (2 : Int) w2 (rr3.2.1) (Prod.fst (rr27.2.2)) (ob4) (rr21.1) (Fr.zero) (rr28.1) (rr29.1)) (ob4)) fun rr30 => let w7 := Prod.snd (Prod.snd (rr30.1.2)); A_8 l0 most1 (hide (wr (g9 + (1 : Int)))) ob0_0 ob0_1 (rr30.1.1) (Prod.fst (rr30.1.2)) (rr20.1.1) (Prod.fst (rr30.2.1)) (ob4) ob5 ob6 ob7 ob8 ob9 (Prod.fst (Prod.snd (rr30.1.2))) (Prod.fst w7) (Prod.fst (Prod.snd w7)) (Prod.fst (Prod.snd (Prod.snd w7))) (Prod.fst (Prod.snd (Prod.snd (Prod.snd w7)))) (Prod.fst (Prod.snd (rr30.2.1))) (Prod.fst (Prod.snd (Prod.snd (rr30.2.1)))) (Prod.fst (Prod.snd (Prod.snd (Prod.snd (rr30.2.1)))))) (cond (hide (eqI (rr4.2.1) (1 : Int))) (Option.bind (p186 N w5 l0 (2 : Int)) fun rr16 => Option.bind (p173 N (hide (u64I (rr16.2.1)))) fun rr17 => Option.bind (p185 N ob1_0 ob1_1 ob10 ob11 ob12 ob13 ob14 ob3_0 ob15 ob16 ob17 (rr17.1)) fun rr18 => let w8 := Prod.snd (Prod.snd (rr18.1.2)); Option.bind (p187 N (rr18.1.1) (Prod.fst (rr18.1.2)) (Prod.fst (Prod.snd (rr18.1.2))) (Prod.fst w8) (Prod.fst (Prod.snd w8)) (Prod.fst (Prod.snd (Prod.snd w8))) (Prod.fst (Prod.snd (Prod.snd (Prod.snd w8)))) (Prod.fst (rr18.2.1)) (Prod.fst (Prod.snd (rr18.2.1))) (Prod.fst (Prod.snd (Prod.snd (rr18.2.1)))) (Prod.fst (Prod.snd (Prod.snd (Prod.snd (rr18.2.1))))) (Stp.mk (3 : Int) (Prod.fst (rr18.2.2)) (0 : Int) (0 : Int) (Fr.zero) (Fr.zero) (Fr.zero) (Fr.zero) (Fr.zero)) (ob4)) fun rr19 => let w9 := Prod.snd (Prod.snd (rr19.1.2)); A_8 l0 most1 (hide (wr (g9 + (1 : Int)))) ob0_0 ob0_1 (rr19.1.1) (Prod.fst (rr19.1.2)) (rr16.1.1) (Prod.fst (rr19.2.1)) (ob4) ob5 ob6 ob7 ob8 ob9 (Prod.fst (Prod.snd (rr19.1.2))) (Prod.fst w9) (Prod.fst (Prod.snd w9)) (Prod.fst (Prod.snd (Prod.snd w9))) (Prod.fst (Prod.snd (Prod.snd (Prod.snd w9)))) (Prod.fst (Prod.snd (rr19.2.1))) (Prod.fst (Prod.snd (Prod.snd (rr19.2.1)))) (Prod.fst (Prod.snd (Prod.snd (Prod.snd (rr19.2.1)))))) (cond (hide (eqI (rr4.2.1) (2 : Int))) (Option.bind (p73 N w1 ([(5 : UInt64)])) fun rr13 => Option.bind (p185 N ob1_0 ob1_1 ob10 ob11 ob12 ob13 ob14 ob3_0 ob15 ob16 ob17 (rr13.1)) fun rr14 => let w10 := Prod.snd (Prod.snd (rr14.1.2)); Option.bind (p187 N (rr14.1.1) (Prod.fst (rr14.1.2)) (Prod.fst (Prod.snd (rr14.1.2))) (Prod.fst w10) (Prod.fst (Prod.snd w10)) (Prod.fst (Prod.snd (Prod.snd w10))) (Prod.fst (Prod.snd (Prod.snd (Prod.snd w10)))) (Prod.fst (rr14.2.1)) (Prod.fst (Prod.snd (rr14.2.1))) (Prod.fst (Prod.snd (Prod.snd (rr14.2.1)))) (Prod.fst (Prod.snd (Prod.snd (Prod.snd (rr14.2.1))))) (Stp.mk (4 : Int) w2 (0 : Int) (Prod.fst (rr14.2.2)) (Fr.zero) (Fr.zero) (Fr.zero) (Fr.zero) (Fr.zero)) (ob4)) fun rr15 => let w11 := Prod.snd (Prod.snd (rr15.1.2)); A_8 l0 most1 (hide (wr (g9 + (1 : Int)))) ob0_0 ob0_1 (rr15.1.1) (Prod.fst (rr15.1.2)) w5 (Prod.fst (rr15.2.1)) (ob4) ob5 ob6 ob7 ob8 ob9 (Prod.fst (Prod.snd (rr15.1.2))) (Prod.fst w11) (Prod.fst (Prod.snd w11)) (Prod.fst (Prod.snd (Prod.snd w11))) (Prod.fst (Prod.snd (Prod.snd (Prod.snd w11)))) (Prod.fst (Prod.snd (rr15.2.1))) (Prod.fst (Prod.snd (Prod.snd (rr15.2.1)))) (Prod.fst (Prod.snd (Prod.snd (Prod.snd (rr15.2.1)))))) (cond (hide (eqI (rr4.2.1) (3 : Int))) (Option.bind (p81 N w1 w4) fun rr10 => Option.bind (p185 N ob1_0 ob1_1 ob10 ob11 ob12 ob13 ob14 ob3_0 ob15 ob16 ob17 (rr10.1)) fun rr11 => let w12 := Prod.snd (Prod.snd (rr11.1.2)); Option.bind (p187 N (rr11.1.1) (Prod.fst (rr11.1.2)) (Prod.fst (Prod.snd (rr11.1.2))) (Prod.fst w12) (Prod.fst (Prod.snd w12)) (Prod.fst (Prod.snd (Prod.snd w12))) (Prod.fst (Prod.snd (Prod.snd (Prod.snd w12)))) (Prod.fst (rr11.2.1)) (Prod.fst (Prod.snd (rr11.2.1))) (Prod.fst (Prod.snd (Prod.snd (rr11.2.1)))) (Prod.fst (Prod.snd (Prod.snd (Prod.snd (rr11.2.1))))) (Stp.mk (5 : Int) w2 (rr3.2.1) (Prod.fst (rr11.2.2)) (Fr.zero) (Fr.zero) (Fr.zero) (Fr.zero) (Fr.zero)) (ob4)) fun rr12 => let w13 := Prod.snd (Prod.snd (rr12.1.2)); A_8 l0 most1 (hide (wr (g9 + (1 : Int)))) ob0_0 ob0_1 (rr12.1.1) (Prod.fst (rr12.1.2)) w5 (Prod.fst (rr12.2.1)) (ob4) ob5 ob6 ob7 ob8 ob9 (Prod.fst (Prod.snd (rr12.1.2))) (Prod.fst w13) (Prod.fst (Prod.snd w13)) (Prod.fst (Prod.snd (Prod.snd w13))) (Prod.fst (Prod.snd (Prod.snd (Prod.snd w13)))) (Prod.fst (Prod.snd (rr12.2.1))) (Prod.fst (Prod.snd (Prod.snd (rr12.2.1)))) (Prod.fst (Prod.snd (Prod.snd (Prod.snd (rr12.2.1)))))) (cond (hide (eqI (rr4.2.1) (4 : Int))) (Option.bind (p185 N ob1_0 ob1_1 ob10 ob11 ob12 ob13 ob14 ob3_0 ob15 ob16 ob17 w1) fun rr8 => let w14 := Prod.snd (Prod.snd (rr8.1.2)); Option.bind (p187 N (rr8.1.1) (Prod.fst (rr8.1.2)) (Prod.fst (Prod.snd (rr8.1.2))) (Prod.fst w14) (Prod.fst (Prod.snd w14)) (Prod.fst (Prod.snd (Prod.snd w14))) (Prod.fst (Prod.snd (Prod.snd (Prod.snd w14)))) (Prod.fst (rr8.2.1)) (Prod.fst (Prod.snd (rr8.2.1))) (Prod.fst (Prod.snd (Prod.snd (rr8.2.1)))) (Prod.fst (Prod.snd (Prod.snd (Prod.snd (rr8.2.1))))) (Stp.mk (6 : Int) (Prod.fst (rr8.2.2)) w2 (0 : Int) (Fr.zero) (Fr.zero) (Fr.zero) (Fr.zero) (Fr.zero)) (ob4)) fun rr9 => let w15 := Prod.snd (Prod.snd (rr9.1.2)); A_8 l0 most1 (hide (wr (g9 + (1 : Int)))) ob0_0 ob0_1 (rr9.1.1) (Prod.fst (rr9.1.2)) w5 (Prod.fst (rr9.2.1)) (ob4) ob5 ob6 ob7 ob8 ob9 (Prod.fst (Prod.snd (rr9.1.2))) (Prod.fst w15) (Prod.fst (Prod.snd w15)) (Prod.fst (Prod.snd (Prod.snd w15))) (Prod.fst (Prod.snd (Prod.snd (Prod.snd w15)))) (Prod.fst (Prod.snd (rr9.2.1))) (Prod.fst (Prod.snd (Prod.snd (rr9.2.1)))) (Prod.fst (Prod.snd (Prod.snd (Prod.snd (rr9.2.1)))))) (cond (hide (eqI (rr4.2.1) (5 : Int))) (cond (hide (ltI (↑ob12.length : Int) (3 : Int))) (Option.bind (p187 N ob1_0 ob1_1 ob10 ob11 ob12 ob13 ob14 ob3_0 ob15 ob16 ob17 (Stp.mk (7 : Int) w2 (0 : Int) (0 : Int) (Fr.zero) (Fr.zero) (Fr.zero) (Fr.zero) (Fr.zero)) (ob4)) fun rr7 => let w16 := Prod.snd (Prod.snd (Prod.snd (rr7.1.2))); must (leN ((List.length (Prod.fst w16) + List.length [Fr.mk (Fr.a0 w0) (Fr.a1 w0) (Fr.a2 w0) (Fr.a3 w0)]) * (32 : Nat)) (140737488355328 : Nat)) (A_8 l0 most1 (hide (wr (g9 + (1 : Int)))) ob0_0 ob0_1 (rr7.1.1) (Prod.fst (rr7.1.2)) w5 (Prod.fst (rr7.2.1)) (ob4) ob5 ob6 ob7 ob8 ob9 (Prod.fst (Prod.snd (rr7.1.2))) (Prod.fst (Prod.snd (Prod.snd (rr7.1.2)))) (Prod.fst w16 ++ [Fr.mk (Fr.a0 w0) (Fr.a1 w0) (Fr.a2 w0) (Fr.a3 w0)]) (Prod.fst (Prod.snd w16)) (Prod.fst (Prod.snd (Prod.snd w16))) (Prod.fst (Prod.snd (rr7.2.1))) (Prod.fst (Prod.snd (Prod.snd (rr7.2.1)))) (Prod.fst (Prod.snd (Prod.snd (Prod.snd (rr7.2.1))))))) (A_8 l0 most1 (hide (wr (g9 + (1 : Int)))) ob0_0 ob0_1 ob1_0 ob1_1 w5 ob3_0 (ob4) ob5 ob6 ob7 ob8 ob9 ob10 ob11 ob12 ob13 ob14 ob15 ob16 ob17)) (Option.bind (p85 N (ob4)) fun rr5 => Option.bind (p187 N ob1_0 ob1_1 ob10 ob11 ob12 ob13 ob14 ob3_0 ob15 ob16 ob17 (Stp.mk (2 : Int) w2 (-5 : Int) w2 (Fr.zero) (ob4) (Fr.zero) (rr5.1) (Fr.zero)) (ob4)) fun rr6 => let w17 := Prod.snd (Prod.snd (rr6.1.2)); A_8 l0 most1 (hide (wr (g9 + (1 : Int)))) ob0_0 ob0_1 (rr6.1.1) (Prod.fst (rr6.1.2)) w5 (Prod.fst (rr6.2.1)) (ob4) ob5 ob6 ob7 ob8 ob9 (Prod.fst (Prod.snd (rr6.1.2))) (Prod.fst w17) (Prod.fst (Prod.snd w17)) (Prod.fst (Prod.snd (Prod.snd w17))) (Prod.fst (Prod.snd (Prod.snd (Prod.snd w17)))) (Prod.fst (Prod.snd (rr6.2.1))) (Prod.fst (Prod.snd (Prod.snd (rr6.2.1)))) (Prod.fst (Prod.snd (Prod.snd (Prod.snd (rr6.2.1)))))))))))))) (Option.bind (p118 N ob3_0 ob15 ob16 ob17) fun rr1 => some (((Prod.fst (rr1.2.1), Prod.fst (Prod.snd (rr1.2.1)), Prod.fst (Prod.snd (Prod.snd (rr1.2.1))), Prod.fst (Prod.snd (Prod.snd (Prod.snd (rr1.2.1)))), ob12, ob13, ob14, ()), ())))) (Option.bind (p118 N ob3_0 ob15 ob16 ob17) fun rr0 => some (((Prod.fst (rr0.2.1), Prod.fst (Prod.snd (rr0.2.1)), Prod.fst (Prod.snd (Prod.snd (rr0.2.1))), Prod.fst (Prod.snd (Prod.snd (Prod.snd (rr0.2.1)))), ob12, ob13, ob14, ()), ())))
def zux (N n : Nat) (l0 : List UInt8) (most1 g9 ob0_0 ob0_1 ob1_0 ob1_1 ob2_0 ob3_0 : Int) (ob4 : Fr) (ob5 : List Row) (ob6 : List Pr) (ob7 ob8 : List Fr) (ob9 : List Stp) (ob10 : List Row) (ob11 : List Pr) (ob12 ob13 : List Fr) (ob14 : List Stp) (ob15 ob16 : List Row) (ob17 : List Pr) : Option ((Int × Int × List Row × List Pr × List Fr × List Fr × List Stp × Unit) × Unit) :=
  zap (fun A x => zuw N (fun l0 most1 g9 ob0_0 ob0_1 ob1_0 ob1_1 ob2_0 ob3_0 ob4 ob5 ob6 ob7 ob8 ob9 ob10 ob11 ob12 ob13 ob14 ob15 ob16 ob17 => A ((l0, (most1, ((), ((), ((), ((), ((), (g9, ())))))))), ((ob0_0, (ob0_1, ((), ((), ((), ((), ((), ()))))))), ((ob1_0, (ob1_1, ((), ((), ((), ((), ((), ()))))))), ((ob2_0, ()), ((ob3_0, ((), ((), ((), ())))), (ob4, (ob5, (ob6, (ob7, (ob8, (ob9, (ob10, (ob11, (ob12, (ob13, (ob14, (ob15, (ob16, (ob17, ())))))))))))))))))))) x.1.1 x.1.2.1 x.1.2.2.2.2.2.2.2.1 x.2.1.1 x.2.1.2.1 x.2.2.1.1 x.2.2.1.2.1 x.2.2.2.1.1 x.2.2.2.2.1.1 x.2.2.2.2.2.1 x.2.2.2.2.2.2.1 x.2.2.2.2.2.2.2.1 x.2.2.2.2.2.2.2.2.1 x.2.2.2.2.2.2.2.2.2.1 x.2.2.2.2.2.2.2.2.2.2.1 x.2.2.2.2.2.2.2.2.2.2.2.1 x.2.2.2.2.2.2.2.2.2.2.2.2.1 x.2.2.2.2.2.2.2.2.2.2.2.2.2.1 x.2.2.2.2.2.2.2.2.2.2.2.2.2.2.1 x.2.2.2.2.2.2.2.2.2.2.2.2.2.2.2.1 x.2.2.2.2.2.2.2.2.2.2.2.2.2.2.2.2.1 x.2.2.2.2.2.2.2.2.2.2.2.2.2.2.2.2.2.1 x.2.2.2.2.2.2.2.2.2.2.2.2.2.2.2.2.2.2.1) n ((l0, (most1, ((), ((), ((), ((), ((), (g9, ())))))))), ((ob0_0, (ob0_1, ((), ((), ((), ((), ((), ()))))))), ((ob1_0, (ob1_1, ((), ((), ((), ((), ((), ()))))))), ((ob2_0, ()), ((ob3_0, ((), ((), ((), ())))), (ob4, (ob5, (ob6, (ob7, (ob8, (ob9, (ob10, (ob11, (ob12, (ob13, (ob14, (ob15, (ob16, (ob17, ())))))))))))))))))))
def p95 (N : Nat) (l0 : List UInt8) (most1 : Int) : Option ((Int × Int × List Row × List Pr × List Fr × List Fr × List Stp × Unit) × Unit) :=
  Option.bind (p173 N (1 : UInt64)) fun rr0 => Option.bind (p186 N (0 : Int) l0 (200 : Int)) fun rr1 => Option.bind (p173 N (hide (u64I (rr1.2.1)))) fun rr2 => Option.bind (p185 N (0 : Int) (0 : Int) [] [] [] [] [] (0 : Int) [] [] [] (rr2.1)) fun rr3 => let w0 := Prod.snd (Prod.snd (rr3.1.2)); Option.bind (p186 N (rr1.1.1) l0 (2 : Int)) fun rr4 => Option.bind (p173 N (hide (u64I (rr4.2.1)))) fun rr5 => Option.bind (p185 N (rr3.1.1) (Prod.fst (rr3.1.2)) (Prod.fst (Prod.snd (rr3.1.2))) (Prod.fst w0) (Prod.fst (Prod.snd w0)) (Prod.fst (Prod.snd (Prod.snd w0))) (Prod.fst (Prod.snd (Prod.snd (Prod.snd w0)))) (Prod.fst (rr3.2.1)) (Prod.fst (Prod.snd (rr3.2.1))) (Prod.fst (Prod.snd (Prod.snd (rr3.2.1)))) (Prod.fst (Prod.snd (Prod.snd (Prod.snd (rr3.2.1))))) (rr5.1)) fun rr6 => let w1 := Prod.snd (Prod.snd (rr6.1.2)); zux N N l0 most1 (0 : Int) (0 : Int) (0 : Int) (rr6.1.1) (Prod.fst (rr6.1.2)) (rr4.1.1) (Prod.fst (rr6.2.1)) (rr0.1) [] [] [] [] [] (Prod.fst (Prod.snd (rr6.1.2))) (Prod.fst w1) (Prod.fst (Prod.snd w1)) (Prod.fst (Prod.snd (Prod.snd w1))) (Prod.fst (Prod.snd (Prod.snd (Prod.snd w1)))) (Prod.fst (Prod.snd (rr6.2.1))) (Prod.fst (Prod.snd (Prod.snd (rr6.2.1)))) (Prod.fst (Prod.snd (Prod.snd (Prod.snd (rr6.2.1)))))
def g95 (N : Nat) : Sg := sgK [(K.ro .u8), K.int] [(K.agg [.int, .int, .ro .row, .ro .pair, .ro .fr, .ro .fr, .ro .step] rfl)] fun x => p95 N x.1 x.2.1
def zzG : List (Nat × Head) := [
    (8, ⟨⟨192, [(0, .u (.c (.ro .u8))), (1, .u (.c (.int))), (4, .u (.c (.ptr0 9000000 0))), (5, .u (.c (.ptr0 9000001 0))), (6, .u (.c (.ptr0 9000002 0))), (7, .u (.c (.ptr0 9000003 0))), (8, .u (.c (.ptr0 9000004 0))), (9, .u (.c (.int)))], [(9000000, ⟨false, 0, 83, .lit [.int, .int, .row 9000005, .row 9000006, .row 9000007, .row 9000008, .row 9000009]⟩), (9000001, ⟨false, 0, 83, .lit [.int, .int, .row 9000010, .row 9000011, .row 9000012, .row 9000013, .row 9000014]⟩), (9000002, ⟨false, 0, 3, .lit [.int]⟩), (9000003, ⟨false, 0, 130, .lit [.int, .row 9000015, .row 9000016, .row 9000017]⟩), (9000004, ⟨false, 4, 53, .fr⟩), (9000005, ⟨true, 0, 116, .vec .row⟩), (9000006, ⟨true, 0, 158, .vec .pair⟩), (9000007, ⟨true, 0, 53, .vec .fr⟩), (9000008, ⟨true, 0, 53, .vec .fr⟩), (9000009, ⟨true, 0, 112, .vec .step⟩), (9000010, ⟨true, 0, 116, .vec .row⟩), (9000011, ⟨true, 0, 158, .vec .pair⟩), (9000012, ⟨true, 0, 53, .vec .fr⟩), (9000013, ⟨true, 0, 53, .vec .fr⟩), (9000014, ⟨true, 0, 112, .vec .step⟩), (9000015, ⟨true, 0, 116, .vec .row⟩), (9000016, ⟨true, 0, 116, .vec .row⟩), (9000017, ⟨true, 0, 158, .vec .pair⟩)]⟩, .exit 0⟩)]
def zzH (N : Nat) : List (Nat × Sg) := [(173, g173 N), (186, g186 N), (185, g185 N), (94, g94 N), (81, g81 N), (85, g85 N), (187, g187 N), (73, g73 N), (118, g118 N)]
theorem zrD (N : Nat) : zaN Try.prog pd.els (zzH N) := ⟨zko N, ⟨zuu N, ⟨zuv N, ⟨zsT N, ⟨zv8 N, ⟨zwc N, ⟨zpu N, ⟨zv5 N, ⟨zut N, trivial⟩⟩⟩⟩⟩⟩⟩⟩⟩
theorem zwX (N : Nat) : SgOK Try.prog pd.els 95 (g95 N) :=
  zaJ zaO (zaj (zrD N)) Try.func95 (zar (by kernel_rfl)) [(K.ro .u8), K.int] [(K.agg [.int, .int, .ro .row, .ro .pair, .ro .fr, .ro .fr, .ro .step] rfl)] _ N zzG 4 fun x => by kernel_rfl
end
end Go.Proofs.Ytgimohchocjgcaa.V
