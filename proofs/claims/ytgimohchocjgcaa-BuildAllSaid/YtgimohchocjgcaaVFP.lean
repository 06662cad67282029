import Derived.Test.YtgimohchocjgcaaVK5
import Derived.KernelRfl
import Derived.Test.YtgimohchocjgcaaVTM
import Derived.Test.YtgimohchocjgcaaVME
set_option linter.unusedVariables false
set_option linter.unusedSimpArgs false
namespace Go.Proofs.Ytgimohchocjgcaa.V
section
def zki (N : Nat) (A_10 : Int -> Int -> Stp -> (List Bool) -> Option (Int × Unit)) (vars1 i7 : Int) (ob0 : Stp) (ob1 : List Bool) : Option (Int × Unit) :=
  let u1 := (↑((0 : Nat) + (1 : Nat) + (1 : Nat)) : Int)
  let u2 := some (((10 : Int), ()))
  let u3 := (↑((0 : Nat) + (1 : Nat)) : Int)
  let u8 := (↑(0 : Nat) : Int)
  let u4 := A_10 vars1 (hide (wr (u8 + (1 : Int)))) (ob0) ob1
  let u5 := hide !eqI ob0.kind (2 : Int)
  let u6 := A_10 vars1 (hide (wr (u3 + (1 : Int)))) (ob0) ob1
  let u7 := A_10 vars1 (hide (wr (u1 + (1 : Int)))) (ob0) ob1
  cond (hide (ltI i7 (3 : Int))) (must (leI (0 : Int) i7 && ltI i7 (↑(3 : Nat) : Int)) (cond (List.getD ob1 i7.toNat false) (cond (eqI i7 u8) (must (eqI i7 u8) (cond (hide (leI vars1 ob0.v0)) u2 (cond (hide (ltI ob0.v0 (0 : Int))) (cond u5 u2 u4) u4))) (cond (eqI i7 u3) (must (eqI i7 u3) (cond (hide (leI vars1 ob0.v1)) u2 (cond (hide (ltI ob0.v1 (0 : Int))) (cond u5 u2 u6) u6))) (must (eqI i7 u1) (must (eqI i7 u1) (cond (hide (leI vars1 ob0.v2)) u2 (cond (hide (ltI ob0.v2 (0 : Int))) (cond u5 u2 u7) u7)))))) (A_10 vars1 (hide (wr (i7 + (1 : Int)))) (ob0) ob1))) (some (((0 : Int), ())))
def zeG (N n : Nat) (vars1 i7 : Int) (ob0 : Stp) (ob1 : List Bool) : Option (Int × Unit) :=
  zas (fun A x => zki N (fun vars1 i7 ob0 ob1 => A ((vars1, ((), ((), (i7, ())))), (ob0, (ob1, ())))) x.1.1 x.1.2.2.2.1 x.2.1 x.2.2.1) n ((vars1, ((), ((), (i7, ())))), (ob0, (ob1, ())))
def zol (N : Nat) (A_4 : Int -> Int -> Stp -> Option (Int × Unit)) (vars1 i5 : Int) (ob0 : Stp) : Option (Int × Unit) :=
  let u9 := hide (eqI ob0.kind (2 : Int))
  let u4 := ltI (1 : Int) ob0.kind
  let u10 := zeG N N vars1 (0 : Int) (ob0) ([hide u4, true, true])
  let u13 := hide (eqI ob0.kind (4 : Int))
  let u11 := eqI ob0.kind (5 : Int)
  let u1 := cond u9 u10 (cond u13 u10 (zeG N N vars1 (0 : Int) (ob0) ([hide u4, true, hide u11])))
  let u2 := (↑((0 : Nat) + (1 : Nat) + (1 : Nat) + (1 : Nat) + (1 : Nat)) : Int)
  let u3 := (↑((0 : Nat) + (1 : Nat) + (1 : Nat) + (1 : Nat)) : Int)
  let u5 := (↑((0 : Nat) + (1 : Nat) + (1 : Nat)) : Int)
  let u6 := some (((4 : Int), ()))
  let u7 := zeG N N vars1 (0 : Int) (ob0) ([hide u4, hide (eqI ob0.kind (6 : Int)), true])
  let u8 := (↑((0 : Nat) + (1 : Nat)) : Int)
  let u12 := (↑(0 : Nat) : Int)
  cond (hide (ltI i5 (5 : Int))) (cond (eqI i5 u12) (must (eqI i5 u12) (Option.bind (p69 N (ob0.q0)) fun rr4 => cond (hide !rr4.1) u6 (A_4 vars1 (hide (wr (u12 + (1 : Int)))) (ob0)))) (cond (eqI i5 u8) (must (eqI i5 u8) (Option.bind (p69 N (ob0.q1)) fun rr3 => cond (hide !rr3.1) u6 (A_4 vars1 (hide (wr (u8 + (1 : Int)))) (ob0)))) (cond (eqI i5 u5) (must (eqI i5 u5) (Option.bind (p69 N (ob0.q2)) fun rr2 => cond (hide !rr2.1) u6 (A_4 vars1 (hide (wr (u5 + (1 : Int)))) (ob0)))) (cond (eqI i5 u3) (must (eqI i5 u3) (Option.bind (p69 N (ob0.q3)) fun rr1 => cond (hide !rr1.1) u6 (A_4 vars1 (hide (wr (u3 + (1 : Int)))) (ob0)))) (must (eqI i5 u2) (must (eqI i5 u2) (Option.bind (p69 N (ob0.q4)) fun rr0 => cond (hide !rr0.1) u6 (A_4 vars1 (hide (wr (u2 + (1 : Int)))) (ob0))))))))) (cond u9 u1 (cond (hide u11) u1 (cond u9 u7 (cond u13 u7 (zeG N N vars1 (0 : Int) (ob0) ([hide u4, hide (eqI ob0.kind (6 : Int)), hide u11]))))))
def zom (N n : Nat) (vars1 i5 : Int) (ob0 : Stp) : Option (Int × Unit) :=
  zas (fun A x => zol N (fun vars1 i5 ob0 => A ((vars1, ((), (i5, ()))), (ob0, ()))) x.1.1 x.1.2.2.1 x.2.1) n ((vars1, ((), (i5, ()))), (ob0, ()))
def p196 (N : Nat) (s0 : Stp) (vars1 : Int) : Option (Int × Unit) :=
  cond (hide (ltI s0.kind (1 : Int))) (some (((11 : Int), ()))) (cond (hide (ltI (7 : Int) s0.kind)) (some (((11 : Int), ()))) (zom N N vars1 (0 : Int) (s0)))
def g196 (N : Nat) : Sg := sgK [(K.st .step), K.int] [K.int] fun x => p196 N x.1 x.2.1
def zt3 : List (Nat × Head) := [
    (4, ⟨⟨83, [(1, .u (.c (.int))), (2, .u (.c (.ptr0 5000000 0))), (5, .u (.c (.int)))], [(5000000, ⟨false, 0, 112, .st .step⟩)]⟩, .exit 0⟩),
    (10, ⟨⟨83, [(1, .u (.c (.int))), (2, .u (.c (.ptr0 11000000 0))), (6, .u (.c (.ptr0 11000001 0))), (7, .u (.c (.int)))], [(11000000, ⟨false, 0, 112, .st .step⟩), (11000001, ⟨false, 3, 212, .vec .bool⟩)]⟩, .exit 2⟩)]
def zt4 (N : Nat) : List (Nat × Sg) := [(69, g69 N)]
theorem zon (N : Nat) : za2 Try.prog pd.els (zt4 N) := ⟨zts N, trivial⟩
theorem zr9 (N : Nat) : SgOK Try.prog pd.els 196 (g196 N) :=
  zaP za3 (zar (zon N)) Try.func196 (zau (by kernel_rfl)) [(K.st .step), K.int] [K.int] _ N zt3 4 fun x => by kernel_rfl
def p115 (N : Nat) (b0 : Int) (s1 v2 : List Row) (v3 : List Pr) (v4 : Stp) : Option ((Int × List Row × List Row × List Pr × Unit) × Int × Int × Unit) :=
  let u1 := some (((b0, s1, v2, v3, ()), (0 : Int), (8 : Int), ()))
  Option.bind (p196 N (v4) b0) fun rr0 => cond (hide !eqI rr0.1 (0 : Int)) (some (((b0, s1, v2, v3, ()), (0 : Int), Prod.fst rr0, ()))) (Option.bind (p197 N (v4)) fun rr1 => cond (hide (ltI (64 : Int) (hide (wr (hide (wr ((↑s1.length : Int) + (↑v2.length : Int))) + (↑rr1.1.length : Int)))))) u1 (cond (hide (eqI v4.kind (1 : Int))) (cond (hide (leI (200 : Int) b0)) u1 (some (((hide (wr (b0 + (1 : Int))), s1, v2, v3, ()), hide (wr (hide (wr (b0 + (1 : Int))) - (1 : Int))), (0 : Int), ())))) (cond (hide (eqI v4.kind (6 : Int))) (cond (hide (leI (200 : Int) (↑v3.length : Int))) u1 (must (leN (((0 : Nat) + List.length v3) * (16 : Nat)) (140737488355328 : Nat)) (must (leN ((List.length v3 + List.length [Pr.mk v4.v0 v4.v1]) * (16 : Nat)) (140737488355328 : Nat)) (some (((b0, s1, v2, v3 ++ [Pr.mk v4.v0 v4.v1], ()), (0 : Int), (0 : Int), ())))))) (cond (hide (eqI v4.kind (7 : Int))) (cond (hide (leI (8 : Int) (↑s1.length : Int))) u1 (must (leN (((0 : Nat) + List.length s1) * (280 : Nat)) (140737488355328 : Nat)) (must (leN ((List.length s1 + List.length rr1.1) * (280 : Nat)) (140737488355328 : Nat)) (some (((b0, s1 ++ Prod.fst rr1, v2, v3, ()), (0 : Int), (0 : Int), ())))))) (must (leN (((0 : Nat) + List.length v2) * (280 : Nat)) (140737488355328 : Nat)) (must (leN ((List.length v2 + List.length rr1.1) * (280 : Nat)) (140737488355328 : Nat)) (some (((b0, s1, v2 ++ Prod.fst rr1, v3, ()), (0 : Int), (0 : Int), ())))))))))
def g115 (N : Nat) : Sg := sgIO 3 [(K.agg [.int, .ro .row, .ro .row, .ro .pair] rfl), (K.st .step)] [(K.agg [.int, .ro .row, .ro .row, .ro .pair] rfl), K.int, K.int] fun x => p115 N x.1.1 x.1.2.1 x.1.2.2.1 x.1.2.2.2.1 x.2.1
def zt5 : List (Nat × Head) := [
    ]
def zt6 (N : Nat) : List (Nat × Sg) := [(196, g196 N), (197, g197 N)]
theorem zoo (N : Nat) : za2 Try.prog pd.els (zt6 N) := ⟨zr9 N, ⟨zr8 N, trivial⟩⟩
theorem zsa (N : Nat) : SgOK Try.prog pd.els 115 (g115 N) :=
  zj3 za3 (zar (zoo N)) Try.func115 (zau (by kernel_rfl)) 3 (by decide) [(K.agg [.int, .ro .row, .ro .row, .ro .pair] rfl), (K.st .step)] [(K.agg [.int, .ro .row, .ro .row, .ro .pair] rfl), K.int, K.int] _ N zt5 4 fun x => by kernel_rfl
def zop (N : Nat) (A_2 : Int -> Int -> Int -> (List Row) -> (List Pr) -> Option (Int × Unit)) (k3 ob0_0 ob0_1 : Int) (ob0_2 : List Row) (ob0_3 : List Pr) : Option (Int × Unit) :=
  cond (hide (ltI k3 (6 : Int))) (must (leI (0 : Int) k3) (must (ltI k3 (18446744073709551616 : Int)) (cond (hide (ltI (hide (shlI (1 : Int) (UInt64.toNat (UInt64.ofNat k3.toNat)))) (↑ob0_2.length : Int))) (A_2 (hide (wr (k3 + (1 : Int)))) ob0_0 ob0_1 ob0_2 ob0_3) (some ((k3, ())))))) (some ((k3, ())))
def zoq (N n : Nat) (k3 ob0_0 ob0_1 : Int) (ob0_2 : List Row) (ob0_3 : List Pr) : Option (Int × Unit) :=
  zas (fun A x => zop N (fun k3 ob0_0 ob0_1 ob0_2 ob0_3 => A (((), (k3, ())), ((ob0_0, (ob0_1, (ob0_2, (ob0_3, ())))), ()))) x.1.2.1 x.2.1.1 x.2.1.2.1 x.2.1.2.2.1 x.2.1.2.2.2.1) n (((), (k3, ())), ((ob0_0, (ob0_1, (ob0_2, (ob0_3, ())))), ()))
def p121 (N : Nat) (c0 v1 : Int) (v2 : List Row) (v3 : List Pr) : Option (Int × Unit) :=
  zoq N N (1 : Int) c0 v1 v2 v3
def g121 (N : Nat) : Sg := sgK [(K.agg [.int, .int, .ro .row, .ro .pair] rfl)] [K.int] fun x => p121 N x.1.1 x.1.2.1 x.1.2.2.1 x.1.2.2.2.1
def zt7 : List (Nat × Head) := [
    (2, ⟨⟨17, [(1, .u (.c (.ptr0 3000000 0))), (3, .u (.c (.int)))], [(3000000, ⟨false, 0, 80, .lit [.int, .int, .ro .row, .ro .pair]⟩)]⟩, .exit 0⟩)]
def zt8 (N : Nat) : List (Nat × Sg) := []
theorem zor (N : Nat) : za2 Try.prog pd.els (zt8 N) := trivial
theorem zsb (N : Nat) : SgOK Try.prog pd.els 121 (g121 N) :=
  zaP za3 (zar (zor N)) Try.func121 (zau (by kernel_rfl)) [(K.agg [.int, .int, .ro .row, .ro .pair] rfl)] [K.int] _ N zt7 4 fun x => by kernel_rfl
end
section
def zfk (N : Nat) (b0 : Int) (v1 v2 : List Row) (v3 : List Pr) : Option (((Int × List Row × List Row × Unit) × Nat) × (Int × Int × List Row × List Pr × Unit) × Unit) :=
  must (leN (((0 : Nat) + List.length v1) * (280 : Nat)) (140737488355328 : Nat)) (must (leN ((List.length v1 + List.length v2) * (280 : Nat)) (140737488355328 : Nat)) (some ((((b0, v1, v2, ()), List.length v3), ((↑v1.length : Int), b0, v1 ++ v2, v3, ()), ()))))
def zle (N : Nat) : Sg := sgIO 7 [(K.agg [.int, .ro .row, .ro .row, .ro .pair] rfl)] [K.bl3, (K.agg [.int, .int, .ro .row, .ro .pair] rfl)] fun x => zfk N x.1.1 x.1.2.1 x.1.2.2.1 x.1.2.2.2.1
def zl9 : List (Nat × Head) := [
    ]
def zma (N : Nat) : List (Nat × Sg) := []
theorem zhV (N : Nat) : za2 Try.prog pd.els (zma N) := trivial
theorem zkj (N : Nat) : SgOK Try.prog pd.els 118 (zle N) :=
  zrU za3 (zar (zhV N)) Try.func118 (zau (by kernel_rfl)) 7 (by decide) [(K.agg [.int, .ro .row, .ro .row, .ro .pair] rfl)] [K.bl3, (K.agg [.int, .int, .ro .row, .ro .pair] rfl)] _ N zl9 4 fun x => by kernel_rfl
def zsc (N : Nat) (A_7 : (List Stp) -> Int -> Int -> Int -> (List Row) -> (List Row) -> (List Pr) -> (List Row) -> (List Row) -> (List Pr) -> Option (Bool × Unit)) (l0 : List Stp) (i5 ob0_0 ob1_0 : Int) (ob2 ob3 : List Row) (ob4 : List Pr) (ob5 ob6 : List Row) (ob7 : List Pr) : Option (Bool × Unit) :=
  cond (hide (ltI i5 (↑l0.length : Int))) (must (leI (0 : Int) i5 && ltI i5 (↑l0.length : Int)) (Option.bind (p114 N ob0_0 ob2 ob3 ob4 (Stp.mk (Stp.kind (List.getD l0 i5.toNat (Stp.mk (0 : Int) (0 : Int) (0 : Int) (0 : Int) (Fr.zero) (Fr.zero) (Fr.zero) (Fr.zero) (Fr.zero)))) (Stp.v0 (List.getD l0 i5.toNat (Stp.mk (0 : Int) (0 : Int) (0 : Int) (0 : Int) (Fr.zero) (Fr.zero) (Fr.zero) (Fr.zero) (Fr.zero)))) (Stp.v1 (List.getD l0 i5.toNat (Stp.mk (0 : Int) (0 : Int) (0 : Int) (0 : Int) (Fr.zero) (Fr.zero) (Fr.zero) (Fr.zero) (Fr.zero)))) (Stp.v2 (List.getD l0 i5.toNat (Stp.mk (0 : Int) (0 : Int) (0 : Int) (0 : Int) (Fr.zero) (Fr.zero) (Fr.zero) (Fr.zero) (Fr.zero)))) (Fr.mk (Fr.a0 (Stp.q0 (List.getD l0 i5.toNat (Stp.mk (0 : Int) (0 : Int) (0 : Int) (0 : Int) (Fr.zero) (Fr.zero) (Fr.zero) (Fr.zero) (Fr.zero))))) (Fr.a1 (Stp.q0 (List.getD l0 i5.toNat (Stp.mk (0 : Int) (0 : Int) (0 : Int) (0 : Int) (Fr.zero) (Fr.zero) (Fr.zero) (Fr.zero) (Fr.zero))))) (Fr.a2 (Stp.q0 (List.getD l0 i5.toNat (Stp.mk (0 : Int) (0 : Int) (0 : Int) (0 : Int) (Fr.zero) (Fr.zero) (Fr.zero) (Fr.zero) (Fr.zero))))) (Fr.a3 (Stp.q0 (List.getD l0 i5.toNat (Stp.mk (0 : Int) (0 : Int) (0 : Int) (0 : Int) (Fr.zero) (Fr.zero) (Fr.zero) (Fr.zero) (Fr.zero)))))) (Fr.mk (Fr.a0 (Stp.q1 (List.getD l0 i5.toNat (Stp.mk (0 : Int) (0 : Int) (0 : Int) (0 : Int) (Fr.zero) (Fr.zero) (Fr.zero) (Fr.zero) (Fr.zero))))) (Fr.a1 (Stp.q1 (List.getD l0 i5.toNat (Stp.mk (0 : Int) (0 : Int) (0 : Int) (0 : Int) (Fr.zero) (Fr.zero) (Fr.zero) (Fr.zero) (Fr.zero))))) (Fr.a2 (Stp.q1 (List.getD l0 i5.toNat (Stp.mk (0 : Int) (0 : Int) (0 : Int) (0 : Int) (Fr.zero) (Fr.zero) (Fr.zero) (Fr.zero) (Fr.zero))))) (Fr.a3 (Stp.q1 (List.getD l0 i5.toNat (Stp.mk (0 : Int) (0 : Int) (0 : Int) (0 : Int) (Fr.zero) (Fr.zero) (Fr.zero) (Fr.zero) (Fr.zero)))))) (Fr.mk (Fr.a0 (Stp.q2 (List.getD l0 i5.toNat (Stp.mk (0 : Int) (0 : Int) (0 : Int) (0 : Int) (Fr.zero) (Fr.zero) (Fr.zero) (Fr.zero) (Fr.zero))))) (Fr.a1 (Stp.q2 (List.getD l0 i5.toNat (Stp.mk (0 : Int) (0 : Int) (0 : Int) (0 : Int) (Fr.zero) (Fr.zero) (Fr.zero) (Fr.zero) (Fr.zero))))) (Fr.a2 (Stp.q2 (List.getD l0 i5.toNat (Stp.mk (0 : Int) (0 : Int) (0 : Int) (0 : Int) (Fr.zero) (Fr.zero) (Fr.zero) (Fr.zero) (Fr.zero))))) (Fr.a3 (Stp.q2 (List.getD l0 i5.toNat (Stp.mk (0 : Int) (0 : Int) (0 : Int) (0 : Int) (Fr.zero) (Fr.zero) (Fr.zero) (Fr.zero) (Fr.zero)))))) (Fr.mk (Fr.a0 (Stp.q3 (List.getD l0 i5.toNat (Stp.mk (0 : Int) (0 : Int) (0 : Int) (0 : Int) (Fr.zero) (Fr.zero) (Fr.zero) (Fr.zero) (Fr.zero))))) (Fr.a1 (Stp.q3 (List.getD l0 i5.toNat (Stp.mk (0 : Int) (0 : Int) (0 : Int) (0 : Int) (Fr.zero) (Fr.zero) (Fr.zero) (Fr.zero) (Fr.zero))))) (Fr.a2 (Stp.q3 (List.getD l0 i5.toNat (Stp.mk (0 : Int) (0 : Int) (0 : Int) (0 : Int) (Fr.zero) (Fr.zero) (Fr.zero) (Fr.zero) (Fr.zero))))) (Fr.a3 (Stp.q3 (List.getD l0 i5.toNat (Stp.mk (0 : Int) (0 : Int) (0 : Int) (0 : Int) (Fr.zero) (Fr.zero) (Fr.zero) (Fr.zero) (Fr.zero)))))) (Fr.mk (Fr.a0 (Stp.q4 (List.getD l0 i5.toNat (Stp.mk (0 : Int) (0 : Int) (0 : Int) (0 : Int) (Fr.zero) (Fr.zero) (Fr.zero) (Fr.zero) (Fr.zero))))) (Fr.a1 (Stp.q4 (List.getD l0 i5.toNat (Stp.mk (0 : Int) (0 : Int) (0 : Int) (0 : Int) (Fr.zero) (Fr.zero) (Fr.zero) (Fr.zero) (Fr.zero))))) (Fr.a2 (Stp.q4 (List.getD l0 i5.toNat (Stp.mk (0 : Int) (0 : Int) (0 : Int) (0 : Int) (Fr.zero) (Fr.zero) (Fr.zero) (Fr.zero) (Fr.zero))))) (Fr.a3 (Stp.q4 (List.getD l0 i5.toNat (Stp.mk (0 : Int) (0 : Int) (0 : Int) (0 : Int) (Fr.zero) (Fr.zero) (Fr.zero) (Fr.zero) (Fr.zero)))))))) fun rr8 => must (leI (0 : Int) i5 && ltI i5 (↑l0.length : Int)) (Option.bind (p115 N ob1_0 ob5 ob6 ob7 (Stp.mk (Stp.kind (List.getD l0 i5.toNat (Stp.mk (0 : Int) (0 : Int) (0 : Int) (0 : Int) (Fr.zero) (Fr.zero) (Fr.zero) (Fr.zero) (Fr.zero)))) (Stp.v0 (List.getD l0 i5.toNat (Stp.mk (0 : Int) (0 : Int) (0 : Int) (0 : Int) (Fr.zero) (Fr.zero) (Fr.zero) (Fr.zero) (Fr.zero)))) (Stp.v1 (List.getD l0 i5.toNat (Stp.mk (0 : Int) (0 : Int) (0 : Int) (0 : Int) (Fr.zero) (Fr.zero) (Fr.zero) (Fr.zero) (Fr.zero)))) (Stp.v2 (List.getD l0 i5.toNat (Stp.mk (0 : Int) (0 : Int) (0 : Int) (0 : Int) (Fr.zero) (Fr.zero) (Fr.zero) (Fr.zero) (Fr.zero)))) (Fr.mk (Fr.a0 (Stp.q0 (List.getD l0 i5.toNat (Stp.mk (0 : Int) (0 : Int) (0 : Int) (0 : Int) (Fr.zero) (Fr.zero) (Fr.zero) (Fr.zero) (Fr.zero))))) (Fr.a1 (Stp.q0 (List.getD l0 i5.toNat (Stp.mk (0 : Int) (0 : Int) (0 : Int) (0 : Int) (Fr.zero) (Fr.zero) (Fr.zero) (Fr.zero) (Fr.zero))))) (Fr.a2 (Stp.q0 (List.getD l0 i5.toNat (Stp.mk (0 : Int) (0 : Int) (0 : Int) (0 : Int) (Fr.zero) (Fr.zero) (Fr.zero) (Fr.zero) (Fr.zero))))) (Fr.a3 (Stp.q0 (List.getD l0 i5.toNat (Stp.mk (0 : Int) (0 : Int) (0 : Int) (0 : Int) (Fr.zero) (Fr.zero) (Fr.zero) (Fr.zero) (Fr.zero)))))) (Fr.mk (Fr.a0 (Stp.q1 (List.getD l0 i5.toNat (Stp.mk (0 : Int) (0 : Int) (0 : Int) (0 : Int) (Fr.zero) (Fr.zero) (Fr.zero) (Fr.zero) (Fr.zero))))) (Fr.a1 (Stp.q1 (List.getD l0 i5.toNat (Stp.mk (0 : Int) (0 : Int) (0 : Int) (0 : Int) (Fr.zero) (Fr.zero) (Fr.zero) (Fr.zero) (Fr.zero))))) (Fr.a2 (Stp.q1 (List.getD l0 i5.toNat (Stp.mk (0 : Int) (0 : Int) (0 : Int) (0 : Int) (Fr.zero) (Fr.zero) (Fr.zero) (Fr.zero) (Fr.zero))))) (Fr.a3 (Stp.q1 (List.getD l0 i5.toNat (Stp.mk (0 : Int) (0 : Int) (0 : Int) (0 : Int) (Fr.zero) (Fr.zero) (Fr.zero) (Fr.zero) (Fr.zero)))))) (Fr.mk (Fr.a0 (Stp.q2 (List.getD l0 i5.toNat (Stp.mk (0 : Int) (0 : Int) (0 : Int) (0 : Int) (Fr.zero) (Fr.zero) (Fr.zero) (Fr.zero) (Fr.zero))))) (Fr.a1 (Stp.q2 (List.getD l0 i5.toNat (Stp.mk (0 : Int) (0 : Int) (0 : Int) (0 : Int) (Fr.zero) (Fr.zero) (Fr.zero) (Fr.zero) (Fr.zero))))) (Fr.a2 (Stp.q2 (List.getD l0 i5.toNat (Stp.mk (0 : Int) (0 : Int) (0 : Int) (0 : Int) (Fr.zero) (Fr.zero) (Fr.zero) (Fr.zero) (Fr.zero))))) (Fr.a3 (Stp.q2 (List.getD l0 i5.toNat (Stp.mk (0 : Int) (0 : Int) (0 : Int) (0 : Int) (Fr.zero) (Fr.zero) (Fr.zero) (Fr.zero) (Fr.zero)))))) (Fr.mk (Fr.a0 (Stp.q3 (List.getD l0 i5.toNat (Stp.mk (0 : Int) (0 : Int) (0 : Int) (0 : Int) (Fr.zero) (Fr.zero) (Fr.zero) (Fr.zero) (Fr.zero))))) (Fr.a1 (Stp.q3 (List.getD l0 i5.toNat (Stp.mk (0 : Int) (0 : Int) (0 : Int) (0 : Int) (Fr.zero) (Fr.zero) (Fr.zero) (Fr.zero) (Fr.zero))))) (Fr.a2 (Stp.q3 (List.getD l0 i5.toNat (Stp.mk (0 : Int) (0 : Int) (0 : Int) (0 : Int) (Fr.zero) (Fr.zero) (Fr.zero) (Fr.zero) (Fr.zero))))) (Fr.a3 (Stp.q3 (List.getD l0 i5.toNat (Stp.mk (0 : Int) (0 : Int) (0 : Int) (0 : Int) (Fr.zero) (Fr.zero) (Fr.zero) (Fr.zero) (Fr.zero)))))) (Fr.mk (Fr.a0 (Stp.q4 (List.getD l0 i5.toNat (Stp.mk (0 : Int) (0 : Int) (0 : Int) (0 : Int) (Fr.zero) (Fr.zero) (Fr.zero) (Fr.zero) (Fr.zero))))) (Fr.a1 (Stp.q4 (List.getD l0 i5.toNat (Stp.mk (0 : Int) (0 : Int) (0 : Int) (0 : Int) (Fr.zero) (Fr.zero) (Fr.zero) (Fr.zero) (Fr.zero))))) (Fr.a2 (Stp.q4 (List.getD l0 i5.toNat (Stp.mk (0 : Int) (0 : Int) (0 : Int) (0 : Int) (Fr.zero) (Fr.zero) (Fr.zero) (Fr.zero) (Fr.zero))))) (Fr.a3 (Stp.q4 (List.getD l0 i5.toNat (Stp.mk (0 : Int) (0 : Int) (0 : Int) (0 : Int) (Fr.zero) (Fr.zero) (Fr.zero) (Fr.zero) (Fr.zero)))))))) fun rr9 => cond (hide !eqI (rr8.2.1) (rr9.2.1)) (some ((false, ()))) (cond (hide !eqI (Prod.fst (rr8.2.2)) (Prod.fst (rr9.2.2))) (some ((false, ()))) (Option.bind (p117 N (rr8.1.1) (Prod.fst (rr8.1.2)) (Prod.fst (Prod.snd (rr8.1.2))) (Prod.fst (Prod.snd (Prod.snd (rr8.1.2))))) fun rr10 => Option.bind (zfk N (rr9.1.1) (Prod.fst (rr9.1.2)) (Prod.fst (Prod.snd (rr9.1.2))) (Prod.fst (Prod.snd (Prod.snd (rr9.1.2))))) fun rr11 => let w0 := Prod.snd (Prod.snd (rr11.2.1)); Option.bind (p116 N (Prod.fst (rr10.2.1)) (Prod.fst (Prod.snd (rr10.2.1))) (Prod.fst (Prod.snd (Prod.snd (rr10.2.1)))) (Prod.fst (Prod.snd (Prod.snd (Prod.snd (rr10.2.1))))) (Prod.fst (rr11.2.1)) (Prod.fst (Prod.snd (rr11.2.1))) (Prod.fst w0) (Prod.fst (Prod.snd w0))) fun rr12 => cond (hide !rr12.1) (some ((false, ()))) (A_7 l0 (hide (wr (i5 + (1 : Int)))) (rr10.1.1) (Prod.fst (rr11.1.1)) (Prod.fst (rr10.1.2)) (Prod.fst (Prod.snd (rr10.1.2))) (Prod.fst (Prod.snd (Prod.snd (rr10.1.2)))) (Prod.fst (Prod.snd (rr11.1.1))) (Prod.fst (Prod.snd (Prod.snd (rr11.1.1)))) (Prod.fst (Prod.snd w0)))))))) (Option.bind (p117 N ob0_0 ob2 ob3 ob4) fun rr0 => let w1 := Prod.snd (Prod.snd (rr0.2.1)); let w2 := Prod.fst (Prod.snd (rr0.2.1)); let w3 := Prod.fst (Prod.snd w1); Option.bind (zfi N (Stp.mk (1 : Int) (0 : Int) (0 : Int) (0 : Int) (Fr.zero) (Fr.zero) (Fr.zero) (Fr.zero) (Fr.zero))) fun rr1 => Option.bind (p114 N (0 : Int) [] [] [] (Stp.mk (1 : Int) (0 : Int) (0 : Int) (0 : Int) (Fr.zero) (Fr.zero) (Fr.zero) (Fr.zero) (Fr.zero))) fun rr2 => Option.bind (p119 N (Prod.fst (rr0.2.1)) w2 (Prod.fst w1) w3) fun rr3 => cond (hide (eqI rr3.1 (0 : Int))) (Option.bind (p120 N (Prod.fst (rr0.2.1)) w2 (Prod.fst w1) w3) fun rr4 => Option.bind (p121 N (Prod.fst (rr0.2.1)) w2 (Prod.fst w1) w3) fun rr5 => cond (hide (eqI rr4.1 rr5.1)) (cond (hide (eqI (rr1.2.1) (1 : Int))) (Option.bind (zfj N) fun rr6 => Option.bind (p116 N (rr6.1.1) (Prod.fst (rr6.1.2)) (Prod.fst (Prod.snd (rr6.1.2))) (Prod.fst (Prod.snd (Prod.snd (rr6.1.2)))) (0 : Int) (0 : Int) [] []) fun rr7 => cond rr7.1 (cond (hide (eqI (rr2.2.1) (0 : Int))) (some ((hide (eqI (Prod.fst (rr2.2.2)) (0 : Int)), ()))) (some ((false, ())))) (some ((false, ())))) (some ((false, ())))) (some ((false, ())))) (some ((false, ()))))
def zsd (N n : Nat) (l0 : List Stp) (i5 ob0_0 ob1_0 : Int) (ob2 ob3 : List Row) (ob4 : List Pr) (ob5 ob6 : List Row) (ob7 : List Pr) : Option (Bool × Unit) :=
  zas (fun A x => zsc N (fun l0 i5 ob0_0 ob1_0 ob2 ob3 ob4 ob5 ob6 ob7 => A ((l0, ((), ((), (i5, ())))), ((ob0_0, ((), ((), ((), ())))), ((ob1_0, ((), ((), ((), ())))), (ob2, (ob3, (ob4, (ob5, (ob6, (ob7, ())))))))))) x.1.1 x.1.2.2.2.1 x.2.1.1 x.2.2.1.1 x.2.2.2.1 x.2.2.2.2.1 x.2.2.2.2.2.1 x.2.2.2.2.2.2.1 x.2.2.2.2.2.2.2.1 x.2.2.2.2.2.2.2.2.1) n ((l0, ((), ((), (i5, ())))), ((ob0_0, ((), ((), ((), ())))), ((ob1_0, ((), ((), ((), ())))), (ob2, (ob3, (ob4, (ob5, (ob6, (ob7, ())))))))))
def p27 (N : Nat) (l0 : List Stp) : Option (Bool × Unit) :=
  Option.bind (p112 N) fun rr0 => cond (hide !rr0.1) (some ((false, ()))) (cond (hide (ltI (90 : Int) (↑l0.length : Int))) (some ((true, ()))) (Option.bind (p113 N) fun rr1 => zsd N N l0 (0 : Int) (Prod.fst (rr1.2.1)) (0 : Int) (Prod.fst (Prod.snd (rr1.2.1))) (Prod.fst (Prod.snd (Prod.snd (rr1.2.1)))) (Prod.fst (Prod.snd (Prod.snd (Prod.snd (rr1.2.1))))) [] [] []))
def zt9 : List (Nat × Head) := [
    (7, ⟨⟨109, [(0, .u (.c (.ro .step))), (3, .u (.c (.ptr0 8000000 0))), (4, .u (.c (.ptr0 8000001 0))), (5, .u (.c (.int)))], [(8000000, ⟨false, 0, 0, .lit [.int, .row 8000002, .row 8000003, .row 8000004]⟩), (8000001, ⟨false, 0, 130, .lit [.int, .row 8000005, .row 8000006, .row 8000007]⟩), (8000002, ⟨true, 0, 116, .vec .row⟩), (8000003, ⟨true, 0, 116, .vec .row⟩), (8000004, ⟨true, 0, 158, .vec .pair⟩), (8000005, ⟨true, 0, 116, .vec .row⟩), (8000006, ⟨true, 0, 116, .vec .row⟩), (8000007, ⟨true, 0, 158, .vec .pair⟩)]⟩, .exit 0⟩)]
def zse (N : Nat) : List (Nat × Sg) := [(112, g112 N), (113, g113 N), (114, g114 N), (115, g115 N), (117, g117 N), (118, zle N), (116, g116 N), (119, g119 N), (120, g120 N), (121, g121 N), (1000114, zlc N), (1000117, zld N)]
theorem zpQ (N : Nat) : za2 Try.prog pd.els (zse N) := ⟨zr5 N, ⟨zn6 N, ⟨zn8 N, ⟨zsa N, ⟨zoa N, ⟨zkj N, ⟨zr6 N, ⟨zn4 N, ⟨zoc N, ⟨zsb N, ⟨zkc N, ⟨zkd N, trivial⟩⟩⟩⟩⟩⟩⟩⟩⟩⟩⟩⟩
end
section
def zua (N : Nat) (A_2 : (List UInt64) -> Int -> Option (List UInt64 × Unit)) (a0 : List UInt64) (n3 : Int) : Option (List UInt64 × Unit) :=
  cond ((ltI (0 : Int) n3)) (must (leI (0 : Int) ((wr (n3 - (1 : Int)))) && ltI ((wr (n3 - (1 : Int)))) (↑a0.length : Int)) (cond ((List.getD a0 (Int.toNat ((wr (n3 - (1 : Int))))) (0 : UInt64) == (0 : UInt64))) (A_2 a0 ((wr (n3 - (1 : Int))))) (must (leI (0 : Int) n3 && leI n3 (↑a0.length : Int)) (must (leN (((0 : Nat) + List.length (List.take (Int.toNat (n3 - (0 : Int))) a0)) * (8 : Nat)) (140737488355328 : Nat)) (some ((List.take (Int.toNat (n3 - (0 : Int))) a0, ()))))))) (must (leI (0 : Int) n3 && leI n3 (↑a0.length : Int)) (must (leN (((0 : Nat) + List.length (List.take (Int.toNat (n3 - (0 : Int))) a0)) * (8 : Nat)) (140737488355328 : Nat)) (some ((List.take (Int.toNat (n3 - (0 : Int))) a0, ())))))
def zub (N n : Nat) (a0 : List UInt64) (n3 : Int) : Option (List UInt64 × Unit) :=
  zas (fun A x => zua N (fun a0 n3 => A ((a0, (n3, ())), ())) x.1.1 x.1.2.1) n ((a0, (n3, ())), ())
def q158 (N : Nat) (a0 : List UInt64) : Option (List UInt64 × Unit) :=
  zub N N a0 ((↑a0.length : Int))
def q160 (N : Nat) (a0 : List UInt64) (i1 : Int) : Option (UInt64 × Unit) :=
  cond ((ltI i1 (↑a0.length : Int))) (must (leI (0 : Int) i1 && ltI i1 (↑a0.length : Int)) (some ((List.getD a0 i1.toNat (0 : UInt64), ())))) (some (((0 : UInt64), ())))
theorem zuc : p160 = q160 := by
  (repeat (apply funext; intro _))
  simp only [p160, q160, hide_eq]
def zef (N : Nat) (A_1000 : (List UInt64) -> (List UInt64) -> Int -> Option (Int × Unit)) (a0 b1 : List UInt64) (i5 : Int) : Option (Int × Unit) :=
  cond ((ltI ((wr (i5 - (1 : Int)))) (0 : Int))) (some (((0 : Int), ()))) (Option.bind (q160 N a0 ((wr (i5 - (1 : Int))))) fun r0 => Option.bind (q160 N b1 ((wr (i5 - (1 : Int))))) fun r1 => cond ((ltN r0.1.toNat r1.1.toNat)) (some (((-1 : Int), ()))) (cond ((ltN r1.1.toNat r0.1.toNat)) (some (((1 : Int), ()))) (A_1000 a0 b1 ((wr (i5 - (1 : Int)))))))
theorem zmb : zhP = zef := by
  (repeat (apply funext; intro _))
  simp only [zhP, zef, hide_eq, zuc]
def zdm (N n : Nat) (a0 b1 : List UInt64) (i5 : Int) : Option (Int × Unit) :=
  zas (fun A x => zef N (fun a0 b1 i5 => A ((a0, (b1, (i5, ()))), ())) x.1.1 x.1.2.1 x.1.2.2.1) n ((a0, (b1, (i5, ()))), ())
theorem zmc : zhQ = zdm := by
  (repeat (apply funext; intro _))
  simp only [zhQ, zdm, zmb]
theorem zhW (N n : Nat) (a0 b1 : List UInt64) (i5 : Int) : zdm N (n + 1) a0 b1 i5 = zef N (zdm N n) a0 b1 i5 := rfl
def q61 (N : Nat) (a0 b1 : List UInt64) : Option (Int × Unit) :=
  zdm N N a0 b1 (mxI (↑a0.length : Int) (↑b1.length : Int))
theorem zwP : p61 = q61 := by
  (repeat (apply funext; intro _))
  simp only [p61, q61, zmc]
def zwQ (N : Nat) (A_5 : (List UInt64) -> (List UInt64) -> Int -> UInt64 -> Int -> Int -> (List UInt64) -> Option (List UInt64 × Unit)) (a0 b1 : List UInt64) (n5 : Int) (carry7 : UInt64) (t17 t18 : Int) (out6o : List UInt64) : Option (List UInt64 × Unit) :=
  cond ((ltI t18 t17)) (Option.bind (q160 N a0 t18) fun r1 => Option.bind (q160 N b1 t18) fun r2 => Option.bind (kAdd r1.1 r2.1 carry7) fun r3 => must (leI (0 : Int) t18 && ltI t18 (↑out6o.length : Int)) (A_5 a0 b1 n5 r3.2 t17 ((wr (t18 + (1 : Int)))) (setL out6o t18.toNat r3.1))) (must (leI (0 : Int) n5 && ltI n5 (↑out6o.length : Int)) (Option.bind (q158 N (setL out6o n5.toNat carry7)) fun r0 => some ((Prod.fst r0, ()))))
def zwR (N n : Nat) (a0 b1 : List UInt64) (n5 : Int) (carry7 : UInt64) (t17 t18 : Int) (out6o : List UInt64) : Option (List UInt64 × Unit) :=
  zas (fun A x => zwQ N (fun a0 b1 n5 carry7 t17 t18 out6o => A ((a0, (b1, (n5, ((), (carry7, (t17, (t18, ()))))))), (out6o, ()))) x.1.1 x.1.2.1 x.1.2.2.1 x.1.2.2.2.2.1 x.1.2.2.2.2.2.1 x.1.2.2.2.2.2.2.1 x.2.1) n ((a0, (b1, (n5, ((), (carry7, (t17, (t18, ()))))))), (out6o, ()))
def q62 (N : Nat) (a0 b1 : List UInt64) : Option (List UInt64 × Unit) :=
  must (leI (0 : Int) ((wr (mxI (↑a0.length : Int) (↑b1.length : Int) + (1 : Int)))) && (eqI ((wr (mxI (↑a0.length : Int) (↑b1.length : Int) + (1 : Int)))) ((wr (mxI (↑a0.length : Int) (↑b1.length : Int) + (1 : Int)))) && leN (Int.toNat ((wr (mxI (↑a0.length : Int) (↑b1.length : Int) + (1 : Int)))) * (8 : Nat)) (140737488355328 : Nat))) (zwR N N a0 b1 (mxI (↑a0.length : Int) (↑b1.length : Int)) (0 : UInt64) (mxI (↑a0.length : Int) (↑b1.length : Int)) (0 : Int) (List.replicate (Int.toNat ((wr (mxI (↑a0.length : Int) (↑b1.length : Int) + (1 : Int))))) (0 : UInt64)))
def q163 (N : Nat) (x0 y1 : UInt64) : Option (UInt64 × UInt64 × Unit) :=
  some ((((((za7 x0 (UInt64.toNat (32 : UInt64))) * (za7 y1 (UInt64.toNat (32 : UInt64)))) + (za7 ((((za7 x0 (UInt64.toNat (32 : UInt64))) * (y1 &&& (4294967295 : UInt64))) + (za7 (((x0 &&& (4294967295 : UInt64)) * (y1 &&& (4294967295 : UInt64)))) (UInt64.toNat (32 : UInt64))))) (UInt64.toNat (32 : UInt64)))) + (za7 ((((((za7 x0 (UInt64.toNat (32 : UInt64))) * (y1 &&& (4294967295 : UInt64))) + (za7 (((x0 &&& (4294967295 : UInt64)) * (y1 &&& (4294967295 : UInt64)))) (UInt64.toNat (32 : UInt64)))) &&& (4294967295 : UInt64)) + ((x0 &&& (4294967295 : UInt64)) * (za7 y1 (UInt64.toNat (32 : UInt64)))))) (UInt64.toNat (32 : UInt64)))), (x0 * y1), ()))
def zwS (N : Nat) (A_3 : (List UInt64) -> (List UInt64) -> Int -> Int -> (List UInt64) -> Option (List UInt64 × Unit)) (A_7 : (List UInt64) -> Int -> UInt64 -> UInt64 -> (List UInt64) -> Int -> Int -> (List UInt64) -> Int -> Int -> (List UInt64) -> Option (List UInt64 × Unit)) (b1 : List UInt64) (i6 : Int) (x7 over8 : UInt64) (t21 : List UInt64) (t22 t23 : Int) (t28 : List UInt64) (t29 t30 : Int) (out5o : List UInt64) : Option (List UInt64 × Unit) :=
  cond ((ltI t30 t29)) (must (leI (0 : Int) t30 && ltI t30 (↑t28.length : Int)) (Option.bind (q163 N x7 (List.getD t28 t30.toNat (0 : UInt64))) fun r0 => must (leI (0 : Int) ((wr (i6 + t30))) && ltI ((wr (i6 + t30))) (↑out5o.length : Int)) (Option.bind (kAdd (r0.2.1) (List.getD out5o (Int.toNat ((wr (i6 + t30)))) (0 : UInt64)) (0 : UInt64)) fun r1 => Option.bind (kAdd r1.1 over8 (0 : UInt64)) fun r2 => must (leI (0 : Int) ((wr (i6 + t30))) && ltI ((wr (i6 + t30))) (↑out5o.length : Int)) (A_7 b1 i6 x7 (((Prod.fst r0 + Prod.snd r1) + Prod.snd r2)) t21 t22 t23 t28 t29 ((wr (t30 + (1 : Int)))) (setL out5o (Int.toNat ((wr (i6 + t30)))) r2.1))))) (must (leI (0 : Int) ((wr (i6 + (↑b1.length : Int)))) && ltI ((wr (i6 + (↑b1.length : Int)))) (↑out5o.length : Int)) (A_3 b1 t21 t22 ((wr (t23 + (1 : Int)))) (setL out5o (Int.toNat ((wr (i6 + (↑b1.length : Int))))) over8)))
def zwT (N : Nat) (A_3 : (List UInt64) -> (List UInt64) -> Int -> Int -> (List UInt64) -> Option (List UInt64 × Unit)) (n : Nat) (b1 : List UInt64) (i6 : Int) (x7 over8 : UInt64) (t21 : List UInt64) (t22 t23 : Int) (t28 : List UInt64) (t29 t30 : Int) (out5o : List UInt64) : Option (List UInt64 × Unit) :=
  zas (fun A x => zwS N A_3 (fun b1 i6 x7 over8 t21 t22 t23 t28 t29 t30 out5o => A ((b1, ((), (i6, (x7, (over8, (t21, (t22, (t23, (t28, (t29, (t30, ()))))))))))), (out5o, ()))) x.1.1 x.1.2.2.1 x.1.2.2.2.1 x.1.2.2.2.2.1 x.1.2.2.2.2.2.1 x.1.2.2.2.2.2.2.1 x.1.2.2.2.2.2.2.2.1 x.1.2.2.2.2.2.2.2.2.1 x.1.2.2.2.2.2.2.2.2.2.1 x.1.2.2.2.2.2.2.2.2.2.2.1 x.2.1) n ((b1, ((), (i6, (x7, (over8, (t21, (t22, (t23, (t28, (t29, (t30, ()))))))))))), (out5o, ()))
def zwU (N : Nat) (A_3 : (List UInt64) -> (List UInt64) -> Int -> Int -> (List UInt64) -> Option (List UInt64 × Unit)) (b1 t21 : List UInt64) (t22 t23 : Int) (out5o : List UInt64) : Option (List UInt64 × Unit) :=
  cond ((ltI t23 t22)) (must (leI (0 : Int) t23 && ltI t23 (↑t21.length : Int)) (zwT N A_3 N b1 t23 (List.getD t21 t23.toNat (0 : UInt64)) (0 : UInt64) t21 t22 t23 b1 ((↑b1.length : Int)) (0 : Int) out5o)) (Option.bind (q158 N out5o) fun r0 => some ((Prod.fst r0, ())))
def zwV (N n : Nat) (b1 t21 : List UInt64) (t22 t23 : Int) (out5o : List UInt64) : Option (List UInt64 × Unit) :=
  zas (fun A x => zwU N (fun b1 t21 t22 t23 out5o => A ((b1, ((), (t21, (t22, (t23, ()))))), (out5o, ()))) x.1.1 x.1.2.2.1 x.1.2.2.2.1 x.1.2.2.2.2.1 x.2.1) n ((b1, ((), (t21, (t22, (t23, ()))))), (out5o, ()))
def q55 (N : Nat) (a0 b1 : List UInt64) : Option (List UInt64 × Unit) :=
  must (leI (0 : Int) ((wr ((↑a0.length : Int) + (↑b1.length : Int)))) && (eqI ((wr ((↑a0.length : Int) + (↑b1.length : Int)))) ((wr ((↑a0.length : Int) + (↑b1.length : Int)))) && leN (Int.toNat ((wr ((↑a0.length : Int) + (↑b1.length : Int)))) * (8 : Nat)) (140737488355328 : Nat))) (zwV N N b1 a0 ((↑a0.length : Int)) (0 : Int) (List.replicate (Int.toNat ((wr ((↑a0.length : Int) + (↑b1.length : Int))))) (0 : UInt64)))
def zud (N : Nat) (A_1000 : (List UInt64) -> Int -> (List UInt64) -> (List UInt64) -> Option (List UInt64 × Int × Unit)) (A_18 : (List UInt64) -> Int -> UInt64 -> Int -> Int -> (List UInt64) -> (List UInt64) -> Option (List UInt64 × Int × Unit)) (a0 : List UInt64) (i7 : Int) (borrow10 : UInt64) (t66 t67 : Int) (m1o r6o : List UInt64) : Option (List UInt64 × Int × Unit) :=
  cond ((ltI t67 t66)) (must (leI (0 : Int) t67 && ltI t67 (↑r6o.length : Int)) (Option.bind (q160 N m1o t67) fun r0 => Option.bind (kSub (List.getD r6o t67.toNat (0 : UInt64)) r0.1 borrow10) fun r1 => must (leI (0 : Int) t67 && ltI t67 (↑r6o.length : Int)) (A_18 a0 i7 r1.2 t66 ((wr (t67 + (1 : Int)))) m1o (setL r6o t67.toNat r1.1)))) (A_1000 a0 i7 m1o r6o)
def zue (N : Nat) (A_1000 : (List UInt64) -> Int -> (List UInt64) -> (List UInt64) -> Option (List UInt64 × Int × Unit)) (n : Nat) (a0 : List UInt64) (i7 : Int) (borrow10 : UInt64) (t66 t67 : Int) (m1o r6o : List UInt64) : Option (List UInt64 × Int × Unit) :=
  zas (fun A x => zud N A_1000 (fun a0 i7 borrow10 t66 t67 m1o r6o => A ((a0, ((), ((), (i7, (borrow10, (t66, (t67, ()))))))), (m1o, (r6o, ())))) x.1.1 x.1.2.2.2.1 x.1.2.2.2.2.1 x.1.2.2.2.2.2.1 x.1.2.2.2.2.2.2.1 x.2.1 x.2.2.1) n ((a0, ((), ((), (i7, (borrow10, (t66, (t67, ()))))))), (m1o, (r6o, ())))
def zuf (N : Nat) (A_1000 : (List UInt64) -> Int -> (List UInt64) -> (List UInt64) -> Option (List UInt64 × Int × Unit)) (A_11 : (List UInt64) -> Int -> UInt64 -> Int -> Int -> (List UInt64) -> (List UInt64) -> Option (List UInt64 × Int × Unit)) (a0 : List UInt64) (i7 : Int) (carry8 : UInt64) (t41 t42 : Int) (m1o r6o : List UInt64) : Option (List UInt64 × Int × Unit) :=
  cond ((ltI t42 t41)) (must (leI (0 : Int) t42 && ltI t42 (↑r6o.length : Int)) (must (leI (0 : Int) t42 && ltI t42 (↑r6o.length : Int)) (must (leI (0 : Int) t42 && ltI t42 (↑r6o.length : Int)) (A_11 a0 i7 ((za7 (List.getD r6o t42.toNat (0 : UInt64)) (UInt64.toNat (63 : UInt64)))) t41 ((wr (t42 + (1 : Int)))) m1o (setL r6o t42.toNat (((zjd (List.getD r6o t42.toNat (0 : UInt64)) (UInt64.toNat (1 : UInt64))) ||| carry8))))))) (Option.bind (q61 N r6o m1o) fun r0 => cond ((leI (0 : Int) r0.1)) (zue N A_1000 N a0 i7 (0 : UInt64) ((↑r6o.length : Int)) (0 : Int) m1o r6o) (A_1000 a0 i7 m1o r6o))
def zug (N : Nat) (A_1000 : (List UInt64) -> Int -> (List UInt64) -> (List UInt64) -> Option (List UInt64 × Int × Unit)) (n : Nat) (a0 : List UInt64) (i7 : Int) (carry8 : UInt64) (t41 t42 : Int) (m1o r6o : List UInt64) : Option (List UInt64 × Int × Unit) :=
  zas (fun A x => zuf N A_1000 (fun a0 i7 carry8 t41 t42 m1o r6o => A ((a0, ((), ((), (i7, (carry8, (t41, (t42, ()))))))), (m1o, (r6o, ())))) x.1.1 x.1.2.2.2.1 x.1.2.2.2.2.1 x.1.2.2.2.2.2.1 x.1.2.2.2.2.2.2.1 x.2.1 x.2.2.1) n ((a0, ((), ((), (i7, (carry8, (t41, (t42, ()))))))), (m1o, (r6o, ())))
def zpR (N : Nat) (A_1000 : (List UInt64) -> Int -> (List UInt64) -> (List UInt64) -> Option (List UInt64 × Int × Unit)) (a0 : List UInt64) (i7 : Int) (m1o r6o : List UInt64) : Option (List UInt64 × Int × Unit) :=
  cond ((ltI ((wr (i7 - (1 : Int)))) (0 : Int))) (Option.bind (q158 N r6o) fun r0 => some ((Prod.fst r0, (0 : Int), ()))) (must (leI (0 : Int) ((wr (Int.tdiv ((wr (i7 - (1 : Int)))) (64 : Int)))) && ltI ((wr (Int.tdiv ((wr (i7 - (1 : Int)))) (64 : Int)))) (↑a0.length : Int)) (zug N A_1000 N a0 ((wr (i7 - (1 : Int)))) (((za7 (List.getD a0 (Int.toNat ((wr (Int.tdiv ((wr (i7 - (1 : Int)))) (64 : Int))))) (0 : UInt64)) (UInt64.toNat ((u64I ((Int.tmod ((wr (i7 - (1 : Int)))) (64 : Int))))))) &&& (1 : UInt64))) ((↑r6o.length : Int)) (0 : Int) m1o r6o))
def zpS (N n : Nat) (a0 : List UInt64) (i7 : Int) (m1o r6o : List UInt64) : Option (List UInt64 × Int × Unit) :=
  zas (fun A x => zpR N (fun a0 i7 m1o r6o => A ((a0, ((), ((), (i7, ())))), (m1o, (r6o, ())))) x.1.1 x.1.2.2.2.1 x.2.1 x.2.2.1) n ((a0, ((), ((), (i7, ())))), (m1o, (r6o, ())))
def q52 (N : Nat) (a0 m1 : List UInt64) : Option (List UInt64 × Int × Unit) :=
  Option.bind (q158 N m1) fun r0 => cond ((eqI (↑r0.1.length : Int) (0 : Int))) (some (([], (7 : Int), ()))) (must (leI (0 : Int) ((wr ((↑r0.1.length : Int) + (1 : Int)))) && (eqI ((wr ((↑r0.1.length : Int) + (1 : Int)))) ((wr ((↑r0.1.length : Int) + (1 : Int)))) && leN (Int.toNat ((wr ((↑r0.1.length : Int) + (1 : Int)))) * (8 : Nat)) (140737488355328 : Nat))) (zpS N N a0 ((wr ((64 : Int) * (↑a0.length : Int)))) r0.1 (List.replicate (Int.toNat ((wr ((↑r0.1.length : Int) + (1 : Int))))) (0 : UInt64))))
def zwW (N : Nat) (A_6 : Int -> Int -> Int -> (List UInt8) -> (List UInt64) -> Option (List UInt8 × Int × Unit)) (A_9 : Int -> Int -> UInt64 -> Int -> Int -> Int -> (List UInt8) -> (List UInt64) -> Option (List UInt8 × Int × Unit)) (n1 i7 : Int) (x8 : UInt64) (t23 t24 t29 : Int) (out6o : List UInt8) (t22o : List UInt64) : Option (List UInt8 × Int × Unit) :=
  cond ((ltI t29 (8 : Int))) (cond ((ltI ((wr ((wr ((wr (n1 - (1 : Int))) - (wr ((8 : Int) * i7)))) - t29))) (0 : Int))) (cond (!(UInt8.ofNat (UInt64.toNat ((za7 x8 (UInt64.toNat ((u64I ((wr ((8 : Int) * t29)))))))))) == (0 : UInt8)) (some (([], (8 : Int), ()))) (cond ((leI (0 : Int) ((wr ((wr ((wr (n1 - (1 : Int))) - (wr ((8 : Int) * i7)))) - t29))))) (must (leI (0 : Int) ((wr ((wr ((wr (n1 - (1 : Int))) - (wr ((8 : Int) * i7)))) - t29))) && ltI ((wr ((wr ((wr (n1 - (1 : Int))) - (wr ((8 : Int) * i7)))) - t29))) (↑out6o.length : Int)) (A_9 n1 i7 x8 t23 t24 ((wr (t29 + (1 : Int)))) (setL out6o (Int.toNat ((wr ((wr ((wr (n1 - (1 : Int))) - (wr ((8 : Int) * i7)))) - t29)))) ((UInt8.ofNat (UInt64.toNat ((za7 x8 (UInt64.toNat ((u64I ((wr ((8 : Int) * t29)))))))))))) t22o)) (A_9 n1 i7 x8 t23 t24 ((wr (t29 + (1 : Int)))) out6o t22o))) (cond ((leI (0 : Int) ((wr ((wr ((wr (n1 - (1 : Int))) - (wr ((8 : Int) * i7)))) - t29))))) (must (leI (0 : Int) ((wr ((wr ((wr (n1 - (1 : Int))) - (wr ((8 : Int) * i7)))) - t29))) && ltI ((wr ((wr ((wr (n1 - (1 : Int))) - (wr ((8 : Int) * i7)))) - t29))) (↑out6o.length : Int)) (A_9 n1 i7 x8 t23 t24 ((wr (t29 + (1 : Int)))) (setL out6o (Int.toNat ((wr ((wr ((wr (n1 - (1 : Int))) - (wr ((8 : Int) * i7)))) - t29)))) ((UInt8.ofNat (UInt64.toNat ((za7 x8 (UInt64.toNat ((u64I ((wr ((8 : Int) * t29)))))))))))) t22o)) (A_9 n1 i7 x8 t23 t24 ((wr (t29 + (1 : Int)))) out6o t22o))) (A_6 n1 t23 ((wr (t24 + (1 : Int)))) out6o t22o)
def zwX (N : Nat) (A_6 : Int -> Int -> Int -> (List UInt8) -> (List UInt64) -> Option (List UInt8 × Int × Unit)) (n : Nat) (n1 i7 : Int) (x8 : UInt64) (t23 t24 t29 : Int) (out6o : List UInt8) (t22o : List UInt64) : Option (List UInt8 × Int × Unit) :=
  zas (fun A x => zwW N A_6 (fun n1 i7 x8 t23 t24 t29 out6o t22o => A ((n1, ((), (i7, (x8, ((), (t23, (t24, (t29, ())))))))), (out6o, (t22o, ())))) x.1.1 x.1.2.2.1 x.1.2.2.2.1 x.1.2.2.2.2.2.1 x.1.2.2.2.2.2.2.1 x.1.2.2.2.2.2.2.2.1 x.2.1 x.2.2.1) n ((n1, ((), (i7, (x8, ((), (t23, (t24, (t29, ())))))))), (out6o, (t22o, ())))
def zwY (N : Nat) (A_6 : Int -> Int -> Int -> (List UInt8) -> (List UInt64) -> Option (List UInt8 × Int × Unit)) (n1 t23 t24 : Int) (out6o : List UInt8) (t22o : List UInt64) : Option (List UInt8 × Int × Unit) :=
  cond ((ltI t24 t23)) (must (leI (0 : Int) t24 && ltI t24 (↑t22o.length : Int)) (zwX N A_6 N n1 t24 (List.getD t22o t24.toNat (0 : UInt64)) t23 t24 (0 : Int) out6o t22o)) (some ((out6o, (0 : Int), ())))
def zwZ (N n : Nat) (n1 t23 t24 : Int) (out6o : List UInt8) (t22o : List UInt64) : Option (List UInt8 × Int × Unit) :=
  zas (fun A x => zwY N (fun n1 t23 t24 out6o t22o => A ((n1, ((), ((), (t23, (t24, ()))))), (out6o, (t22o, ())))) x.1.1 x.1.2.2.2.1 x.1.2.2.2.2.1 x.2.1 x.2.2.1) n ((n1, ((), ((), (t23, (t24, ()))))), (out6o, (t22o, ())))
def q57 (N : Nat) (a0 : List UInt64) (n1 : Int) : Option (List UInt8 × Int × Unit) :=
  Option.bind (q158 N a0) fun r0 => cond ((ltI n1 (0 : Int))) (some (([], (8 : Int), ()))) (cond ((ltI (192 : Int) n1)) (some (([], (8 : Int), ()))) (must (leI (0 : Int) n1 && (eqI n1 n1 && leN (Int.toNat n1 * (1 : Nat)) (140737488355328 : Nat))) (zwZ N N n1 ((↑r0.1.length : Int)) (0 : Int) (List.replicate n1.toNat (0 : UInt8)) r0.1)))
def zuh (N : Nat) (A_2 : (List UInt64) -> Int -> Option (List UInt64 × Unit)) (a0 : List UInt64) (n3 : Int) : Option (List UInt64 × Unit) :=
  cond ((ltI (0 : Int) n3)) (must (leI (0 : Int) ((wr (n3 - (1 : Int)))) && ltI ((wr (n3 - (1 : Int)))) (↑a0.length : Int)) (cond ((List.getD a0 (Int.toNat ((wr (n3 - (1 : Int))))) (0 : UInt64) == (0 : UInt64))) (A_2 a0 ((wr (n3 - (1 : Int))))) (must (leI (0 : Int) n3 && leI n3 (↑a0.length : Int)) (must (leN (((0 : Nat) + List.length (List.take (Int.toNat (n3 - (0 : Int))) a0)) * (8 : Nat)) (140737488355328 : Nat)) (some ((List.take (Int.toNat (n3 - (0 : Int))) a0, ()))))))) (must (leI (0 : Int) n3 && leI n3 (↑a0.length : Int)) (must (leN (((0 : Nat) + List.length (List.take (Int.toNat (n3 - (0 : Int))) a0)) * (8 : Nat)) (140737488355328 : Nat)) (some ((List.take (Int.toNat (n3 - (0 : Int))) a0, ())))))
def zui (N n : Nat) (a0 : List UInt64) (n3 : Int) : Option (List UInt64 × Unit) :=
  zas (fun A x => zuh N (fun a0 n3 => A ((a0, (n3, ())), ())) x.1.1 x.1.2.1) n ((a0, (n3, ())), ())
def q161 (N : Nat) (a0 : List UInt64) : Option (List UInt64 × Unit) :=
  zui N N a0 ((↑a0.length : Int))
def q162 (N : Nat) (a0 : List UInt64) (i1 : Int) : Option (UInt64 × Unit) :=
  cond ((leI (↑a0.length : Int) ((wr (Int.tdiv i1 (64 : Int)))))) (some (((0 : UInt64), ()))) (must (leI (0 : Int) ((wr (Int.tdiv i1 (64 : Int)))) && ltI ((wr (Int.tdiv i1 (64 : Int)))) (↑a0.length : Int)) (must (leI (0 : Int) ((Int.tmod i1 (64 : Int)))) (must (ltI ((Int.tmod i1 (64 : Int))) (18446744073709551616 : Int)) (some ((((za7 (List.getD a0 (Int.toNat ((wr (Int.tdiv i1 (64 : Int))))) (0 : UInt64)) (UInt64.toNat (UInt64.ofNat (Int.toNat ((Int.tmod i1 (64 : Int))))))) &&& (1 : UInt64)), ()))))))
def q165 (N : Nat) (a0 : List UInt64) (i1 : Int) : Option (UInt64 × Unit) :=
  cond ((ltI i1 (↑a0.length : Int))) (must (leI (0 : Int) i1 && ltI i1 (↑a0.length : Int)) (some ((List.getD a0 i1.toNat (0 : UInt64), ())))) (some (((0 : UInt64), ())))
def zw0 (N : Nat) (A_7 : Int -> (List UInt64) -> (List UInt64) -> Option (Int × Unit)) (i5 : Int) (a0o b1o : List UInt64) : Option (Int × Unit) :=
  cond ((leI (0 : Int) i5)) (must (leI (0 : Int) i5 && ltI i5 (↑a0o.length : Int)) (must (leI (0 : Int) i5 && ltI i5 (↑b1o.length : Int)) (cond ((ltN (UInt64.toNat (List.getD a0o i5.toNat (0 : UInt64))) (UInt64.toNat (List.getD b1o i5.toNat (0 : UInt64))))) (some (((-1 : Int), ()))) (must (leI (0 : Int) i5 && ltI i5 (↑a0o.length : Int)) (must (leI (0 : Int) i5 && ltI i5 (↑b1o.length : Int)) (cond ((ltN (UInt64.toNat (List.getD b1o i5.toNat (0 : UInt64))) (UInt64.toNat (List.getD a0o i5.toNat (0 : UInt64))))) (some (((1 : Int), ()))) (A_7 ((wr (i5 - (1 : Int)))) a0o b1o))))))) (some (((0 : Int), ())))
def zw1 (N n : Nat) (i5 : Int) (a0o b1o : List UInt64) : Option (Int × Unit) :=
  zas (fun A x => zw0 N (fun i5 a0o b1o => A (((), ((), (i5, ()))), (a0o, (b1o, ())))) x.1.2.2.1 x.2.1 x.2.2.1) n (((), ((), (i5, ()))), (a0o, (b1o, ())))
def q65 (N : Nat) (a0 b1 : List UInt64) : Option (Int × Unit) :=
  Option.bind (q161 N a0) fun r0 => Option.bind (q161 N b1) fun r1 => cond (!eqI (↑r0.1.length : Int) (↑r1.1.length : Int)) (cond ((ltI (↑r0.1.length : Int) (↑r1.1.length : Int))) (some (((-1 : Int), ()))) (some (((1 : Int), ())))) (zw1 N N ((wr ((↑r0.1.length : Int) - (1 : Int)))) r0.1 r1.1)
def zw2 (N : Nat) (A_4 : (List UInt64) -> (List UInt64) -> UInt64 -> Int -> (List UInt64) -> Option (List UInt64 × Unit)) (a0 b1 : List UInt64) (c6 : UInt64) (i7 : Int) (out5o : List UInt64) : Option (List UInt64 × Unit) :=
  cond ((ltI i7 (mxI (↑a0.length : Int) (↑b1.length : Int)))) (Option.bind (q165 N a0 i7) fun r1 => Option.bind (q165 N b1 i7) fun r2 => Option.bind (kAdd r1.1 r2.1 c6) fun r3 => must (leN ((List.length out5o + List.length [Prod.fst r3]) * (8 : Nat)) (140737488355328 : Nat)) (A_4 a0 b1 r3.2 ((wr (i7 + (1 : Int)))) (out5o ++ [Prod.fst r3]))) (must (leN ((List.length out5o + List.length [c6]) * (8 : Nat)) (140737488355328 : Nat)) (Option.bind (q161 N (out5o ++ [c6])) fun r0 => some ((Prod.fst r0, ()))))
def zw3 (N n : Nat) (a0 b1 : List UInt64) (c6 : UInt64) (i7 : Int) (out5o : List UInt64) : Option (List UInt64 × Unit) :=
  zas (fun A x => zw2 N (fun a0 b1 c6 i7 out5o => A ((a0, (b1, ((), (c6, (i7, ()))))), (out5o, ()))) x.1.1 x.1.2.1 x.1.2.2.2.1 x.1.2.2.2.2.1 x.2.1) n ((a0, (b1, ((), (c6, (i7, ()))))), (out5o, ()))
def q66 (N : Nat) (a0 b1 : List UInt64) : Option (List UInt64 × Unit) :=
  zw3 N N a0 b1 (0 : UInt64) (0 : Int) []
def zw4 (N : Nat) (A_6 : (List UInt64) -> (List UInt64) -> UInt64 -> Int -> (List UInt64) -> Option (List UInt64 × Int × Unit)) (a0 b1 : List UInt64) (c7 : UInt64) (i8 : Int) (out6o : List UInt64) : Option (List UInt64 × Int × Unit) :=
  cond ((ltI i8 (mxI (↑a0.length : Int) (↑b1.length : Int)))) (Option.bind (q165 N a0 i8) fun r1 => Option.bind (q165 N b1 i8) fun r2 => Option.bind (kSub r1.1 r2.1 c7) fun r3 => must (leN ((List.length out6o + List.length [Prod.fst r3]) * (8 : Nat)) (140737488355328 : Nat)) (A_6 a0 b1 r3.2 ((wr (i8 + (1 : Int)))) (out6o ++ [Prod.fst r3]))) (Option.bind (q161 N out6o) fun r0 => some ((Prod.fst r0, (0 : Int), ())))
def zw5 (N n : Nat) (a0 b1 : List UInt64) (c7 : UInt64) (i8 : Int) (out6o : List UInt64) : Option (List UInt64 × Int × Unit) :=
  zas (fun A x => zw4 N (fun a0 b1 c7 i8 out6o => A ((a0, (b1, ((), (c7, (i8, ()))))), (out6o, ()))) x.1.1 x.1.2.1 x.1.2.2.2.1 x.1.2.2.2.2.1 x.2.1) n ((a0, (b1, ((), (c7, (i8, ()))))), (out6o, ()))
def q64 (N : Nat) (a0 b1 : List UInt64) : Option (List UInt64 × Int × Unit) :=
  Option.bind (q65 N a0 b1) fun r0 => cond ((ltI r0.1 (0 : Int))) (some (([], (1 : Int), ()))) (zw5 N N a0 b1 (0 : UInt64) (0 : Int) [])
def zw6 (N : Nat) (A_6 : (List UInt64) -> Int -> (List UInt64) -> (List UInt64) -> Option (List UInt64 × Int × Unit)) (a0 : List UInt64) (i7 : Int) (m1o r6o : List UInt64) : Option (List UInt64 × Int × Unit) :=
  cond ((leI (0 : Int) i7)) (Option.bind (q66 N r6o r6o) fun r1 => Option.bind (q162 N a0 i7) fun r2 => cond ((Prod.fst r2 == (1 : UInt64))) (Option.bind (q66 N r1.1 ([(1 : UInt64)])) fun r5 => Option.bind (q65 N r5.1 m1o) fun r6 => cond ((leI (0 : Int) r6.1)) (Option.bind (q64 N r5.1 m1o) fun r7 => A_6 a0 ((wr (i7 - (1 : Int)))) m1o r7.1) (A_6 a0 ((wr (i7 - (1 : Int)))) m1o r5.1)) (Option.bind (q65 N r1.1 m1o) fun r3 => cond ((leI (0 : Int) r3.1)) (Option.bind (q64 N r1.1 m1o) fun r4 => A_6 a0 ((wr (i7 - (1 : Int)))) m1o r4.1) (A_6 a0 ((wr (i7 - (1 : Int)))) m1o r1.1))) (Option.bind (q161 N r6o) fun r0 => some ((Prod.fst r0, (0 : Int), ())))
def zw7 (N n : Nat) (a0 : List UInt64) (i7 : Int) (m1o r6o : List UInt64) : Option (List UInt64 × Int × Unit) :=
  zas (fun A x => zw6 N (fun a0 i7 m1o r6o => A ((a0, ((), ((), (i7, ())))), (m1o, (r6o, ())))) x.1.1 x.1.2.2.2.1 x.2.1 x.2.2.1) n ((a0, ((), ((), (i7, ())))), (m1o, (r6o, ())))
def q53 (N : Nat) (a0 m1 : List UInt64) : Option (List UInt64 × Int × Unit) :=
  Option.bind (q161 N m1) fun r0 => cond ((eqI (↑r0.1.length : Int) (0 : Int))) (some (([], (7 : Int), ()))) (zw7 N N a0 ((wr ((wr ((64 : Int) * (↑a0.length : Int))) - (1 : Int)))) r0.1 [])
def zw8 (N : Nat) (A_4 : (List UInt64) -> (List UInt64) -> Int -> Option (Bool × Unit)) (a0 b1 : List UInt64) (i5 : Int) : Option (Bool × Unit) :=
  cond ((ltI i5 (↑a0.length : Int))) (must (leI (0 : Int) i5 && ltI i5 (↑a0.length : Int)) (must (leI (0 : Int) i5 && ltI i5 (↑b1.length : Int)) (cond (!List.getD a0 i5.toNat (0 : UInt64) == List.getD b1 i5.toNat (0 : UInt64)) (some ((false, ()))) (A_4 a0 b1 ((wr (i5 + (1 : Int)))))))) (some ((true, ())))
def zw9 (N n : Nat) (a0 b1 : List UInt64) (i5 : Int) : Option (Bool × Unit) :=
  zas (fun A x => zw8 N (fun a0 b1 i5 => A ((a0, (b1, (i5, ()))), ())) x.1.1 x.1.2.1 x.1.2.2.1) n ((a0, (b1, (i5, ()))), ())
def q54 (N : Nat) (a0 b1 : List UInt64) : Option (Bool × Unit) :=
  cond (!eqI (↑a0.length : Int) (↑b1.length : Int)) (some ((false, ()))) (zw9 N N a0 b1 (0 : Int))
def q51 (N : Nat) : Option (Bool × Unit) :=
  Option.bind (q52 N ([(7 : UInt64)]) ([(4 : UInt64)])) fun r0 => Option.bind (q57 N ([(258 : UInt64)]) (2 : Int)) fun r1 => cond ((eqI (r0.2.1) (0 : Int))) (cond ((eqI (↑r0.1.length : Int) (1 : Int))) (must (ltI (0 : Int) (↑r0.1.length : Int)) (cond ((List.getD r0.1 (0 : Nat) (0 : UInt64) == (3 : UInt64))) (cond ((eqI (r1.2.1) (0 : Int))) (cond ((eqB r1.1 [(1 : UInt8), (2 : UInt8)])) (Option.bind (q62 N ([(1 : UInt64)]) []) fun r2 => cond ((eqI (↑r2.1.length : Int) (1 : Int))) (Option.bind (q55 N ([(9223372036854775808 : UInt64)]) ([(2 : UInt64)])) fun r3 => cond ((eqI (↑r3.1.length : Int) (2 : Int))) (Option.bind (q61 N ([(1 : UInt64)]) []) fun r4 => some (((eqI r4.1 (1 : Int)), ()))) (some ((false, ())))) (some ((false, ())))) (some ((false, ())))) (some ((false, ())))) (some ((false, ()))))) (some ((false, ())))) (some ((false, ())))
end
section
def q6 (N : Nat) (a0 m1 : List UInt64) : Option (Bool × Unit) :=
  Option.bind (q51 N) fun r0 => cond (!r0.1) (some ((false, ()))) (cond ((ltI (24 : Int) (↑a0.length : Int))) (some ((true, ()))) (cond ((ltI (12 : Int) (↑m1.length : Int))) (some ((true, ()))) (Option.bind (q52 N a0 m1) fun r1 => Option.bind (q53 N a0 m1) fun r2 => cond ((eqI (r1.2.1) (r2.2.1))) (Option.bind (q54 N r1.1 r2.1) fun r3 => some ((Prod.fst r3, ()))) (some ((false, ()))))))
end
section
def q75 (N : Nat) (n0 : UInt64) : Option (Fr × Unit) :=
  some (({ a0 := n0, a1 := (0 : UInt64), a2 := (0 : UInt64), a3 := (0 : UInt64) }, ()))
theorem zxa : p75 = q75 := by
  (repeat (apply funext; intro _))
  simp only [p75, q75, ]
def q169 (N : Nat) : Option (Fr × Unit) :=
  some (({ a0 := (18446744069414584321 : UInt64), a1 := (6034159408538082302 : UInt64), a2 := (3691218898639771653 : UInt64), a3 := (8353516859464449352 : UInt64) }, ()))
theorem zuj : p169 = q169 := by
  (repeat (apply funext; intro _))
  simp only [p169, q169, ]
def q79 (N : Nat) (a0 : Fr) : Option (Bool × Unit) :=
  Option.bind (q169 N) fun r0 => Option.bind (q61 N (List.take (Int.toNat ((↑(4 : Nat) : Int) - (0 : Int))) [Fr.a0 a0, Fr.a1 a0, Fr.a2 a0, Fr.a3 a0]) (List.take (Int.toNat ((↑(4 : Nat) : Int) - (0 : Int))) [Fr.a0 r0.1, Fr.a1 r0.1, Fr.a2 r0.1, Fr.a3 r0.1])) fun r1 => some (((ltI r1.1 (0 : Int)), ()))
theorem zuk : p79 = q79 := by
  (repeat (apply funext; intro _))
  simp only [p79, q79, hide_eq, zuj, zwP]
def q88 (N : Nat) : Option (List UInt64 × Unit) :=
  some (([(18446744069414584321 : UInt64), (6034159408538082302 : UInt64), (3691218898639771653 : UInt64), (8353516859464449352 : UInt64)], ()))
theorem zxb : p88 = q88 := by
  (repeat (apply funext; intro _))
  simp only [p88, q88, ]
def zg0 (N : Nat) (A_2 : (List UInt64) -> (List UInt64) -> Int -> Option (Bool × Unit)) (a0 m1 : List UInt64) (i5 : Int) : Option (Bool × Unit) :=
  cond ((leI (0 : Int) i5)) (must (leI (0 : Int) i5 && ltI i5 (↑a0.length : Int)) (must (leI (0 : Int) i5 && ltI i5 (↑m1.length : Int)) (cond (!List.getD a0 i5.toNat (0 : UInt64) == List.getD m1 i5.toNat (0 : UInt64)) (must (leI (0 : Int) i5 && ltI i5 (↑a0.length : Int)) (must (leI (0 : Int) i5 && ltI i5 (↑m1.length : Int)) (some (((ltN (UInt64.toNat (List.getD a0 i5.toNat (0 : UInt64))) (UInt64.toNat (List.getD m1 i5.toNat (0 : UInt64)))), ()))))) (A_2 a0 m1 ((wr (i5 - (1 : Int)))))))) (some ((false, ())))
theorem zpT : znE = zg0 := by
  (repeat (apply funext; intro _))
  simp only [znE, zg0, hide_eq]
def zg1 (N n : Nat) (a0 m1 : List UInt64) (i5 : Int) : Option (Bool × Unit) :=
  zas (fun A x => zg0 N (fun a0 m1 i5 => A ((a0, (m1, (i5, ()))), ())) x.1.1 x.1.2.1 x.1.2.2.1) n ((a0, (m1, (i5, ()))), ())
theorem zpU : znF = zg1 := by
  (repeat (apply funext; intro _))
  simp only [znF, zg1, zpT]
theorem zf9 (N n : Nat) (a0 m1 : List UInt64) (i5 : Int) : zg1 N (n + 1) a0 m1 i5 = zg0 N (zg1 N n) a0 m1 i5 := rfl
def q168 (N : Nat) (a0 m1 : List UInt64) : Option (Bool × Unit) :=
  zg1 N N a0 m1 ((wr ((↑m1.length : Int) - (1 : Int))))
theorem zul : p168 = q168 := by
  (repeat (apply funext; intro _))
  simp only [p168, q168, hide_eq, zpU]
def q69 (N : Nat) (a0 : Fr) : Option (Bool × Unit) :=
  Option.bind (q88 N) fun r0 => Option.bind (q168 N (List.take (Int.toNat ((↑(4 : Nat) : Int) - (0 : Int))) [Fr.a0 a0, Fr.a1 a0, Fr.a2 a0, Fr.a3 a0]) r0.1) fun r1 => some ((Prod.fst r1, ()))
theorem zxc : p69 = q69 := by
  (repeat (apply funext; intro _))
  simp only [p69, q69, zul, zxb]
def q173 (N : Nat) (n0 : UInt64) : Option (Fr × Unit) :=
  some (({ a0 := n0, a1 := (0 : UInt64), a2 := (0 : UInt64), a3 := (0 : UInt64) }, ()))
theorem zum : p173 = q173 := by
  (repeat (apply funext; intro _))
  simp only [p173, q173, ]
end
section
def lv : List UInt64 -> Nat
  | [] => 0
  | x :: l => x.toNat + 18446744073709551616 * lv l
theorem zci (l : List UInt64) (i : Nat) : lv (l.take (i + 1)) = lv (l.take i) + 18446744073709551616 ^ i * (l.getD i 0).toNat := by
  induction l generalizing i with
  | nil => simp [lv]
  | cons x l ih =>
    cases i with
    | zero => simp [lv]
    | succ i =>
      simp only [List.take_succ_cons, lv, ih i, List.getD_cons_succ, Nat.pow_succ]
      generalize 18446744073709551616 ^ i = p
      rw [Nat.mul_add, Nat.add_assoc]
      congr 2
      rw [Nat.mul_comm p 18446744073709551616, Nat.mul_assoc]
theorem zga {l : List UInt64} {n : Nat} (h : l.length <= n) : lv (l.take n) = lv l := by
  rw [List.take_of_length_le h]
theorem zxd (l : List UInt64) : lv l < 18446744073709551616 ^ l.length := by
  induction l with
  | nil => simp [lv]
  | cons x l ih =>
    have hx := x.toNat_lt
    simp only [lv, List.length_cons, Nat.pow_succ]
    have h2 : 18446744073709551616 * (lv l + 1) <= 18446744073709551616 * 18446744073709551616 ^ l.length := Nat.mul_le_mul_left _ ih
    rw [Nat.mul_comm (18446744073709551616 ^ l.length)]
    omega
theorem zdn (l : List UInt64) (i : Nat) : lv (l.take i) < 18446744073709551616 ^ i := by
  refine Nat.lt_of_lt_of_le (zxd _) (Nat.pow_le_pow_right (by decide) ?_)
  rw [List.length_take]; omega
theorem zgb {l : List UInt64} {i : Nat} (h : l.length <= i) : l.getD i 0 = 0 := by
  rw [List.getD_eq_getElem?_getD, List.getElem?_eq_none h]; rfl
theorem zsf {k : Nat} (h : k < 9223372036854775807) : wr (((k + 1 : Nat) : Int) - 1) = (k : Int) := by
  rw [zeD (by omega) (by omega)]; omega
theorem zsg (a b : Nat) : mxI (a : Int) (b : Int) = ((max a b : Nat) : Int) := by
  unfold mxI
  rw [zny]
  by_cases h : a < b
  . rw [zfe h, cond_true]; congr 1; omega
  . rw [zed h, cond_false]; congr 1; omega
end
section
theorem zos (N : Nat) (a : List UInt64) (i : Nat) : q160 N a (i : Int) = some (a.getD i 0, ()) := by
  unfold q160
  rw [zny]
  by_cases h : i < a.length
  . rw [zfe h, cond_true, zby, Bool.true_and, zs6 rfl]
    rfl
  . rw [zed h, cond_false, zgb (by omega)]
def cmpN (a b : Nat) : Int := if a < b then -1 else if b < a then 1 else 0
theorem zun (N : Nat) (a b : List UInt64) : ∀ n k : Nat, k < n -> k < 9223372036854775807 -> (∀ j, k <= j -> a.getD j 0 = b.getD j 0) -> zdm N n a b (k : Int) = some (cmpN (lv (a.take k)) (lv (b.take k)), ()) := by
  intro n
  induction n with
  | zero => intro k h; omega
  | succ n ih =>
    intro k hn hb h0
    rw [zhW]
    unfold zef
    cases k with
    | zero =>
      rw [show wr (((0 : Nat) : Int) - 1) = -1 from zeD (by omega) (by omega), show ltI (-1) 0 = true from rfl, cond_true]
      simp [cmpN, lv]
    | succ k =>
      rw [zsf (by omega), zpF, cond_false, zos, zos, zci, zci]
      simp only [Option.bind_some]
      have h1 := zdn a k
      have h2 := zdn b k
      generalize 18446744073709551616 ^ k = p at h1 h2 ⊢
      by_cases e1 : (a.getD k 0).toNat < (b.getD k 0).toNat
      . rw [zfe e1, cond_true]
        have : p * ((a.getD k 0).toNat + 1) <= p * (b.getD k 0).toNat := Nat.mul_le_mul_left _ e1
        rw [Nat.mul_add] at this
        simp only [cmpN]
        rw [if_pos (by omega)]
      . rw [zed e1, cond_false]
        by_cases e2 : (b.getD k 0).toNat < (a.getD k 0).toNat
        . rw [zfe e2, cond_true]
          have : p * ((b.getD k 0).toNat + 1) <= p * (a.getD k 0).toNat := Nat.mul_le_mul_left _ e2
          rw [Nat.mul_add] at this
          simp only [cmpN]
          rw [if_neg (by omega), if_pos (by omega)]
        . rw [zed e2, cond_false]
          have e3 : (a.getD k 0).toNat = (b.getD k 0).toNat := by omega
          rw [ih k (by omega) (by omega) fun j hj => ?_]
          . simp only [cmpN, e3, Nat.add_lt_add_iff_right]
          . by_cases e : j = k
            . rw [e]; exact UInt64.toNat_inj.1 e3
            . exact h0 j (by omega)
theorem zuo {N : Nat} {a b : List UInt64} (ha : a.length < 1000000) (hb : b.length < 1000000) (hN : max a.length b.length < N) : q61 N a b = some (cmpN (lv a) (lv b), ()) := by
  unfold q61
  rw [zsg, zun N a b N _ hN (by omega) fun j hj => by rw [zgb (by omega), zgb (by omega)], zga (by omega), zga (by omega)]
end
section
theorem zpV {n : Nat} (h : n < 18446744073709551616) : (u64I (n : Int)).toNat = n := by
  unfold u64I
  rw [UInt64.toNat_ofNat']
  omega
end
section
theorem mst {R : Type} {x : Option R} : must true x = x := rfl
def RR : Nat := 52435875175126190479447740508185965837690552500527637822603658699938581184513
def fv (x : Fr) : Nat := lv x.l
end
section
def mL : List UInt64 := [18446744069414584321, 6034159408538082302, 3691218898639771653, 8353516859464449352]
theorem zup : lv mL = RR := by decide +kernel
theorem zot (x : Nat) : x % RR < RR := Nat.mod_lt _ (by decide)
end
end Go.Proofs.Ytgimohchocjgcaa.V
