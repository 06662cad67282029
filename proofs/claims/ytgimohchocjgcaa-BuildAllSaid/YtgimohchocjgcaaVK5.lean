import Derived.Test.YtgimohchocjgcaaVTM
import Derived.KernelRfl
import Derived.Test.YtgimohchocjgcaaVME
set_option linter.unusedVariables false
set_option linter.unusedSimpArgs false
namespace Go.Proofs.Ytgimohchocjgcaa.V
section
def p75 (N : Nat) (n0 : UInt64) : Option (Fr × Unit) :=
  some (({ a0 := n0, a1 := (0 : UInt64), a2 := (0 : UInt64), a3 := (0 : UInt64) }, ()))
def g75 (N : Nat) : Sg := sgK [K.u64] [K.fr] fun x => p75 N x.1
def zwH : List (Nat × Head) := [
    ]
def zwI (N : Nat) : List (Nat × Sg) := []
theorem zpM (N : Nat) : za2 Try.prog pd.els (zwI N) := trivial
theorem ztm (N : Nat) : SgOK Try.prog pd.els 75 (g75 N) :=
  zaP za3 (zar (zpM N)) Try.func75 (zau (by kernel_rfl)) [K.u64] [K.fr] _ N zwH 4 fun x => by kernel_rfl
def p169 (N : Nat) : Option (Fr × Unit) :=
  some (({ a0 := (18446744069414584321 : UInt64), a1 := (6034159408538082302 : UInt64), a2 := (3691218898639771653 : UInt64), a3 := (8353516859464449352 : UInt64) }, ()))
def g169 (N : Nat) : Sg := sgK [] [K.fr] fun x => p169 N
def ztn : List (Nat × Head) := [
    ]
def zto (N : Nat) : List (Nat × Sg) := []
theorem znD (N : Nat) : za2 Try.prog pd.els (zto N) := trivial
theorem zrW (N : Nat) : SgOK Try.prog pd.els 169 (g169 N) :=
  zaP za3 (zar (znD N)) Try.func169 (zau (by kernel_rfl)) [] [K.fr] _ N ztn 4 fun x => by kernel_rfl
def p79 (N : Nat) (a0 : Fr) : Option (Bool × Unit) :=
  Option.bind (p169 N) fun r0 => Option.bind (p61 N (List.take (Int.toNat ((↑(4 : Nat) : Int) - (0 : Int))) [Fr.a0 a0, Fr.a1 a0, Fr.a2 a0, Fr.a3 a0]) (List.take (Int.toNat ((↑(4 : Nat) : Int) - (0 : Int))) [Fr.a0 r0.1, Fr.a1 r0.1, Fr.a2 r0.1, Fr.a3 r0.1])) fun r1 => some ((hide (ltI r1.1 (0 : Int)), ()))
def g79 (N : Nat) : Sg := sgK [K.fr] [K.bool] fun x => p79 N x.1
def zwJ : List (Nat × Head) := [
    ]
def zwK (N : Nat) : List (Nat × Sg) := [(169, g169 N), (61, g61 N)]
theorem zpN (N : Nat) : za2 Try.prog pd.els (zwK N) := ⟨zrW N, ⟨ztd N, trivial⟩⟩
theorem zqQ (N : Nat) : SgOK Try.prog pd.els 79 (g79 N) :=
  zaP za3 (zar (zpN N)) Try.func79 (zau (by kernel_rfl)) [K.fr] [K.bool] _ N zwJ 4 fun x => by kernel_rfl
def p88 (N : Nat) : Option (List UInt64 × Unit) :=
  some (([(18446744069414584321 : UInt64), (6034159408538082302 : UInt64), (3691218898639771653 : UInt64), (8353516859464449352 : UInt64)], ()))
def g88 (N : Nat) : Sg := sgK [] [(K.ro .u64)] fun x => p88 N
def zwL : List (Nat × Head) := [
    ]
def zwM (N : Nat) : List (Nat × Sg) := []
theorem zpO (N : Nat) : za2 Try.prog pd.els (zwM N) := trivial
theorem ztp (N : Nat) : SgOK Try.prog pd.els 88 (g88 N) :=
  zaP za3 (zar (zpO N)) Try.func88 (zau (by kernel_rfl)) [] [(K.ro .u64)] _ N zwL 4 fun x => by kernel_rfl
def znE (N : Nat) (A_2 : (List UInt64) -> (List UInt64) -> Int -> Option (Bool × Unit)) (a0 m1 : List UInt64) (i5 : Int) : Option (Bool × Unit) :=
  cond (hide (leI (0 : Int) i5)) (must (leI (0 : Int) i5 && ltI i5 (↑a0.length : Int)) (must (leI (0 : Int) i5 && ltI i5 (↑m1.length : Int)) (cond (hide !List.getD a0 i5.toNat (0 : UInt64) == List.getD m1 i5.toNat (0 : UInt64)) (must (leI (0 : Int) i5 && ltI i5 (↑a0.length : Int)) (must (leI (0 : Int) i5 && ltI i5 (↑m1.length : Int)) (some ((hide (ltN (UInt64.toNat (List.getD a0 i5.toNat (0 : UInt64))) (UInt64.toNat (List.getD m1 i5.toNat (0 : UInt64)))), ()))))) (A_2 a0 m1 (hide (wr (i5 - (1 : Int)))))))) (some ((false, ())))
def znF (N n : Nat) (a0 m1 : List UInt64) (i5 : Int) : Option (Bool × Unit) :=
  zas (fun A x => znE N (fun a0 m1 i5 => A ((a0, (m1, (i5, ()))), ())) x.1.1 x.1.2.1 x.1.2.2.1) n ((a0, (m1, (i5, ()))), ())
def p168 (N : Nat) (a0 m1 : List UInt64) : Option (Bool × Unit) :=
  znF N N a0 m1 (hide (wr ((↑m1.length : Int) - (1 : Int))))
def g168 (N : Nat) : Sg := sgK [(K.ro .u64), (K.ro .u64)] [K.bool] fun x => p168 N x.1 x.2.1
def ztq : List (Nat × Head) := [
    (2, ⟨⟨31, [(0, .u (.c (.ro .u64))), (1, .u (.c (.ro .u64))), (5, .u (.c (.int)))], []⟩, .exit 0⟩)]
def ztr (N : Nat) : List (Nat × Sg) := []
theorem znG (N : Nat) : za2 Try.prog pd.els (ztr N) := trivial
theorem zrX (N : Nat) : SgOK Try.prog pd.els 168 (g168 N) :=
  zaP za3 (zar (znG N)) Try.func168 (zau (by kernel_rfl)) [(K.ro .u64), (K.ro .u64)] [K.bool] _ N ztq 4 fun x => by kernel_rfl
def p69 (N : Nat) (a0 : Fr) : Option (Bool × Unit) :=
  Option.bind (p88 N) fun r0 => Option.bind (p168 N (List.take (Int.toNat ((↑(4 : Nat) : Int) - (0 : Int))) [Fr.a0 a0, Fr.a1 a0, Fr.a2 a0, Fr.a3 a0]) r0.1) fun r1 => some ((Prod.fst r1, ()))
def g69 (N : Nat) : Sg := sgK [K.fr] [K.bool] fun x => p69 N x.1
def zwN : List (Nat × Head) := [
    ]
def zwO (N : Nat) : List (Nat × Sg) := [(88, g88 N), (168, g168 N)]
theorem zpP (N : Nat) : za2 Try.prog pd.els (zwO N) := ⟨ztp N, ⟨zrX N, trivial⟩⟩
theorem zts (N : Nat) : SgOK Try.prog pd.els 69 (g69 N) :=
  zaP za3 (zar (zpP N)) Try.func69 (zau (by kernel_rfl)) [K.fr] [K.bool] _ N zwN 4 fun x => by kernel_rfl
def p173 (N : Nat) (n0 : UInt64) : Option (Fr × Unit) :=
  some (({ a0 := n0, a1 := (0 : UInt64), a2 := (0 : UInt64), a3 := (0 : UInt64) }, ()))
def g173 (N : Nat) : Sg := sgK [K.u64] [K.fr] fun x => p173 N x.1
def ztt : List (Nat × Head) := [
    ]
def ztu (N : Nat) : List (Nat × Sg) := []
theorem znH (N : Nat) : za2 Try.prog pd.els (ztu N) := trivial
theorem zrY (N : Nat) : SgOK Try.prog pd.els 173 (g173 N) :=
  zaP za3 (zar (znH N)) Try.func173 (zau (by kernel_rfl)) [K.u64] [K.fr] _ N ztt 4 fun x => by kernel_rfl
end
section
def p217 (N : Nat) (kind0 : Int) : Option (List Int × Bool × Unit) :=
  let u1 := cond (hide (eqI kind0 (4 : Int))) (some (([(0 : Int), (2 : Int)], true, ()))) (cond (hide (eqI kind0 (6 : Int))) (some (([(0 : Int), (1 : Int)], true, ()))) (some (([], false, ()))))
  let u6 := hide (eqI kind0 (3 : Int))
  let u4 := some (([(0 : Int)], true, ()))
  let u2 := cond u6 (cond u6 u4 u1) (cond (hide (eqI kind0 (7 : Int))) u4 u1)
  let u3 := some (([(0 : Int), (1 : Int), (2 : Int)], true, ()))
  let u5 := hide (eqI kind0 (2 : Int))
  cond (hide (eqI kind0 (1 : Int))) (some (([], true, ()))) (cond u5 (cond u5 u3 u2) (cond (hide (eqI kind0 (5 : Int))) u3 u2))
def g217 (N : Nat) : Sg := sgK [K.int] [(K.ro .int), K.bool] fun x => p217 N x.1
def ztv : List (Nat × Head) := [
    ]
def ztw (N : Nat) : List (Nat × Sg) := []
theorem znI (N : Nat) : za2 Try.prog pd.els (ztw N) := trivial
theorem zrZ (N : Nat) : SgOK Try.prog pd.els 217 (g217 N) :=
  zaP za3 (zar (znI N)) Try.func217 (zau (by kernel_rfl)) [K.int] [(K.ro .int), K.bool] _ N ztv 4 fun x => by kernel_rfl
def p195 (N : Nat) (at0 : Int) (w1 : List Int) : Option (Row × Unit) :=
  let u10 := (0 : Nat) + (1 : Nat) + (1 : Nat)
  let u1 := List.getD w1 u10 (0 : Int)
  let u2 := Fr.zero
  let u3 := List.getD w1 ((0 : Nat) + (1 : Nat)) (0 : Int)
  let u4 := List.getD w1 (0 : Nat) (0 : Int)
  let u5 := eqI at0 (↑((0 : Nat) + (1 : Nat) + (1 : Nat) + (1 : Nat) + (1 : Nat) + (1 : Nat) + (1 : Nat) + (1 : Nat)) : Int)
  let u6 := eqI at0 (↑((0 : Nat) + (1 : Nat) + (1 : Nat) + (1 : Nat) + (1 : Nat) + (1 : Nat) + (1 : Nat)) : Int)
  let u7 := eqI at0 (↑((0 : Nat) + (1 : Nat) + (1 : Nat) + (1 : Nat) + (1 : Nat) + (1 : Nat)) : Int)
  let u8 := eqI at0 (↑((0 : Nat) + (1 : Nat) + (1 : Nat) + (1 : Nat) + (1 : Nat)) : Int)
  let u9 := eqI at0 (↑((0 : Nat) + (1 : Nat) + (1 : Nat) + (1 : Nat)) : Int)
  let u11 := eqI at0 (↑((0 : Nat) + (1 : Nat)) : Int)
  let u12 := eqI at0 (↑(0 : Nat) : Int)
  must (leI (↑(3 : Nat) : Int) (↑w1.length : Int)) (must (leN ((0 : Nat) + (3 : Nat)) w1.length) (Option.bind (p75 N (1 : UInt64)) fun rr0 => cond u12 (must u12 (some ((Row.mk (rr0.1) u2 u2 u2 u2 u2 u2 u2 u4 u3 u1, ())))) (cond u11 (must u11 (some ((Row.mk u2 (rr0.1) u2 u2 u2 u2 u2 u2 u4 u3 u1, ())))) (cond (eqI at0 (↑u10 : Int)) (must (eqI at0 (↑u10 : Int)) (some ((Row.mk u2 u2 (rr0.1) u2 u2 u2 u2 u2 u4 u3 u1, ())))) (cond u9 (must u9 (some ((Row.mk u2 u2 u2 (rr0.1) u2 u2 u2 u2 u4 u3 u1, ())))) (cond u8 (must u8 (some ((Row.mk u2 u2 u2 u2 (rr0.1) u2 u2 u2 u4 u3 u1, ())))) (cond u7 (must u7 (some ((Row.mk u2 u2 u2 u2 u2 (rr0.1) u2 u2 u4 u3 u1, ())))) (cond u6 (must u6 (some ((Row.mk u2 u2 u2 u2 u2 u2 (rr0.1) u2 u4 u3 u1, ())))) (must u5 (must u5 (some ((Row.mk u2 u2 u2 u2 u2 u2 u2 (rr0.1) u4 u3 u1, ())))))))))))))
def g195 (N : Nat) : Sg := sgK [K.int, (K.ro .int)] [(K.st .row)] fun x => p195 N x.1 x.2.1
def ztx : List (Nat × Head) := [
    ]
def zty (N : Nat) : List (Nat × Sg) := [(75, g75 N)]
theorem znJ (N : Nat) : za2 Try.prog pd.els (zty N) := ⟨ztm N, trivial⟩
theorem zr0 (N : Nat) : SgOK Try.prog pd.els 195 (g195 N) :=
  zaP za3 (zar (znJ N)) Try.func195 (zau (by kernel_rfl)) [K.int, (K.ro .int)] [(K.st .row)] _ N ztx 4 fun x => by kernel_rfl
def p108 (N : Nat) (s0 : Stp) : Option (List Row × Int × Unit) :=
  let u2 := Fr.zero
  let u1 := some (([Row.mk (s0.q0) (s0.q1) (s0.q2) (s0.q3) (s0.q4) u2 u2 u2 (mxI s0.v0 (-1 : Int)) (mxI s0.v1 (-1 : Int)) (mxI s0.v2 (-1 : Int))], (0 : Int), ()))
  let u3 := [Stp.v0 s0, (-1 : Int), (-1 : Int)]
  let u4 := p195 N (6 : Int) ([Stp.v0 s0, (-1 : Int), Stp.v2 s0])
  let u5 := p195 N (7 : Int) ([Stp.v0 s0, Stp.v1 s0, (-1 : Int)])
  let u6 := hide (eqI s0.kind (1 : Int))
  let u7 := hide (eqI s0.kind (2 : Int))
  let u8 := hide (eqI s0.kind (3 : Int))
  let u9 := hide (eqI s0.kind (4 : Int))
  let u10 := hide (eqI s0.kind (5 : Int))
  let u11 := hide (eqI s0.kind (7 : Int))
  let u12 := some (([], (11 : Int), ()))
  let u13 := some (([], (0 : Int), ()))
  cond u6 (cond u6 u13 (cond u7 u1 (cond u8 (Option.bind (p195 N (5 : Int) u3) fun rr7 => some (([rr7.1], (0 : Int), ()))) (cond u9 (Option.bind u4 fun rr6 => some (([rr6.1], (0 : Int), ()))) (cond u10 (Option.bind u5 fun rr5 => some (([rr5.1, Row.mk u2 u2 u2 u2 u2 u2 u2 u2 s0.v2 (-1 : Int) (-1 : Int)], (0 : Int), ()))) (cond u11 (Option.bind (p195 N (1 : Int) u3) fun rr4 => some (([rr4.1], (0 : Int), ()))) u12)))))) (cond (hide (eqI s0.kind (6 : Int))) u13 (cond u7 u1 (cond u8 (Option.bind (p195 N (5 : Int) u3) fun rr3 => some (([rr3.1], (0 : Int), ()))) (cond u9 (Option.bind u4 fun rr2 => some (([rr2.1], (0 : Int), ()))) (cond u10 (Option.bind u5 fun rr1 => some (([rr1.1, Row.mk u2 u2 u2 u2 u2 u2 u2 u2 s0.v2 (-1 : Int) (-1 : Int)], (0 : Int), ()))) (cond u11 (Option.bind (p195 N (1 : Int) u3) fun rr0 => some (([rr0.1], (0 : Int), ()))) u12))))))
def g108 (N : Nat) : Sg := sgK [(K.st .step)] [(K.ro .row), K.int] fun x => p108 N x.1
def ztz : List (Nat × Head) := [
    ]
def ztA (N : Nat) : List (Nat × Sg) := [(195, g195 N)]
theorem znK (N : Nat) : za2 Try.prog pd.els (ztA N) := ⟨zr0 N, trivial⟩
theorem zj7 (N : Nat) : SgOK Try.prog pd.els 108 (g108 N) :=
  zaP za3 (zar (znK N)) Try.func108 (zau (by kernel_rfl)) [(K.st .step)] [(K.ro .row), K.int] _ N ztz 4 fun x => by kernel_rfl
def zj8 (N : Nat) (A_11 : Int -> Int -> Int -> Stp -> (List Int) -> Option (Int × Unit)) (vars1 t30 t31 : Int) (ob0 : Stp) (t29o : List Int) : Option (Int × Unit) :=
  let u1 := A_11 vars1 t30 (hide (wr (t31 + (1 : Int)))) (ob0) t29o
  let u2 := List.getD t29o t31.toNat (0 : Int)
  let u4 := some (((10 : Int), ()))
  let u3 := cond (hide !eqI ob0.kind (2 : Int)) u4 u1
  let u5 := eqI u2 (↑((0 : Nat) + (1 : Nat) + (1 : Nat)) : Int)
  let u6 := eqI u2 (↑((0 : Nat) + (1 : Nat)) : Int)
  let u7 := eqI u2 (↑(0 : Nat) : Int)
  cond (hide (ltI t31 t30)) (must (leI (0 : Int) t31 && ltI t31 (↑t29o.length : Int)) (cond u7 (must u7 (cond (hide (leI vars1 ob0.v0)) u4 (cond (hide (ltI ob0.v0 (0 : Int))) u3 u1))) (cond u6 (must u6 (cond (hide (leI vars1 ob0.v1)) u4 (cond (hide (ltI ob0.v1 (0 : Int))) u3 u1))) (must u5 (must u5 (cond (hide (leI vars1 ob0.v2)) u4 (cond (hide (ltI ob0.v2 (0 : Int))) u3 u1))))))) (some (((0 : Int), ())))
def zj9 (N n : Nat) (vars1 t30 t31 : Int) (ob0 : Stp) (t29o : List Int) : Option (Int × Unit) :=
  zas (fun A x => zj8 N (fun vars1 t30 t31 ob0 t29o => A ((vars1, ((), ((), (t30, (t31, ()))))), (ob0, (t29o, ())))) x.1.1 x.1.2.2.2.1 x.1.2.2.2.2.1 x.2.1 x.2.2.1) n ((vars1, ((), ((), (t30, (t31, ()))))), (ob0, (t29o, ())))
def znL (N : Nat) (A_5 : Int -> (List Fr) -> Int -> Stp -> (List Int) -> Option (Int × Unit)) (vars1 : Int) (t21 : List Fr) (t22 : Int) (ob0 : Stp) (l5o : List Int) : Option (Int × Unit) :=
  cond (hide (ltI t22 (5 : Int))) (must (leI (0 : Int) t22 && (ltI t22 (↑(5 : Nat) : Int) && ltI t22 (↑t21.length : Int))) (Option.bind (p79 N ((List.getD t21 t22.toNat (Fr.zero)))) fun rr0 => cond (hide !rr0.1) (some (((4 : Int), ()))) (A_5 vars1 t21 (hide (wr (t22 + (1 : Int)))) (ob0) l5o))) (zj9 N N vars1 ((↑l5o.length : Int)) (0 : Int) (ob0) l5o)
def znM (N n : Nat) (vars1 : Int) (t21 : List Fr) (t22 : Int) (ob0 : Stp) (l5o : List Int) : Option (Int × Unit) :=
  zas (fun A x => znL N (fun vars1 t21 t22 ob0 l5o => A ((vars1, ((), ((), (t21, (t22, ()))))), (ob0, (l5o, ())))) x.1.1 x.1.2.2.2.1 x.1.2.2.2.2.1 x.2.1 x.2.2.1) n ((vars1, ((), ((), (t21, (t22, ()))))), (ob0, (l5o, ())))
def p192 (N : Nat) (s0 : Stp) (vars1 : Int) : Option (Int × Unit) :=
  Option.bind (p217 N s0.kind) fun rr0 => cond (hide !rr0.2.1) (some (((11 : Int), ()))) (znM N N vars1 ([s0.q0, s0.q1, s0.q2, s0.q3, s0.q4]) (0 : Int) (s0) rr0.1)
def g192 (N : Nat) : Sg := sgK [(K.st .step), K.int] [K.int] fun x => p192 N x.1 x.2.1
def ztB : List (Nat × Head) := [
    (5, ⟨⟨52, [(1, .u (.c (.int))), (2, .u (.c (.ptr0 6000000 0))), (5, .u (.c (.row 6000001))), (21, .u (.vec .fr)), (22, .u (.c (.int)))], [(6000000, ⟨false, 0, 112, .st .step⟩), (6000001, ⟨true, 0, 3, .vec .int⟩)]⟩, .exit 0⟩),
    (11, ⟨⟨52, [(1, .u (.c (.int))), (2, .u (.c (.ptr0 12000000 0))), (29, .u (.c (.row 12000001))), (30, .u (.c (.int))), (31, .u (.c (.int)))], [(12000000, ⟨false, 0, 112, .st .step⟩), (12000001, ⟨true, 0, 3, .vec .int⟩)]⟩, .exit 2⟩)]
def ztC (N : Nat) : List (Nat × Sg) := [(217, g217 N), (79, g79 N)]
theorem znN (N : Nat) : za2 Try.prog pd.els (ztC N) := ⟨zrZ N, ⟨zqQ N, trivial⟩⟩
theorem znO (N : Nat) : SgOK Try.prog pd.els 192 (g192 N) :=
  zaP za3 (zar (znN N)) Try.func192 (zau (by kernel_rfl)) [(K.st .step), K.int] [K.int] _ N ztB 4 fun x => by kernel_rfl
end
section
def zrow : Row := Row.mk Fr.zero Fr.zero Fr.zero Fr.zero Fr.zero Fr.zero Fr.zero Fr.zero (0 : Int) (0 : Int) (0 : Int)
def zaL (x y : Row) : Bool := Fr.a0 x.q0 == Fr.a0 y.q0 && (Fr.a1 x.q0 == Fr.a1 y.q0 && (Fr.a2 x.q0 == Fr.a2 y.q0 && (Fr.a3 x.q0 == Fr.a3 y.q0 && true))) && (Fr.a0 x.q1 == Fr.a0 y.q1 && (Fr.a1 x.q1 == Fr.a1 y.q1 && (Fr.a2 x.q1 == Fr.a2 y.q1 && (Fr.a3 x.q1 == Fr.a3 y.q1 && true))) && (Fr.a0 x.q2 == Fr.a0 y.q2 && (Fr.a1 x.q2 == Fr.a1 y.q2 && (Fr.a2 x.q2 == Fr.a2 y.q2 && (Fr.a3 x.q2 == Fr.a3 y.q2 && true))) && (Fr.a0 x.q3 == Fr.a0 y.q3 && (Fr.a1 x.q3 == Fr.a1 y.q3 && (Fr.a2 x.q3 == Fr.a2 y.q3 && (Fr.a3 x.q3 == Fr.a3 y.q3 && true))) && (Fr.a0 x.q4 == Fr.a0 y.q4 && (Fr.a1 x.q4 == Fr.a1 y.q4 && (Fr.a2 x.q4 == Fr.a2 y.q4 && (Fr.a3 x.q4 == Fr.a3 y.q4 && true))) && (Fr.a0 x.q5 == Fr.a0 y.q5 && (Fr.a1 x.q5 == Fr.a1 y.q5 && (Fr.a2 x.q5 == Fr.a2 y.q5 && (Fr.a3 x.q5 == Fr.a3 y.q5 && true))) && (Fr.a0 x.q6 == Fr.a0 y.q6 && (Fr.a1 x.q6 == Fr.a1 y.q6 && (Fr.a2 x.q6 == Fr.a2 y.q6 && (Fr.a3 x.q6 == Fr.a3 y.q6 && true))) && (Fr.a0 x.q7 == Fr.a0 y.q7 && (Fr.a1 x.q7 == Fr.a1 y.q7 && (Fr.a2 x.q7 == Fr.a2 y.q7 && (Fr.a3 x.q7 == Fr.a3 y.q7 && true))) && true))))))) && (eqI x.w0 y.w0 && (eqI x.w1 y.w1 && (eqI x.w2 y.w2 && true)) && true)
end
section
def znP (N : Nat) (A_2 : (List Row) -> Int -> Int -> Option (Bool × Unit)) (A_5 : (List Row) -> Int -> Int -> (List Fr) -> Int -> Option (Bool × Unit)) (t8 : List Row) (t9 t10 : Int) (t15 : List Fr) (t16 : Int) : Option (Bool × Unit) :=
  cond (hide (ltI t16 (8 : Int))) (must (leI (0 : Int) t16 && (ltI t16 (↑(8 : Nat) : Int) && ltI t16 (↑t15.length : Int))) (Option.bind (p79 N ((List.getD t15 t16.toNat (Fr.zero)))) fun r0 => cond (hide !r0.1) (some ((false, ()))) (A_5 t8 t9 t10 t15 (hide (wr (t16 + (1 : Int))))))) (A_2 t8 t9 (hide (wr (t10 + (1 : Int)))))
def znQ (N : Nat) (A_2 : (List Row) -> Int -> Int -> Option (Bool × Unit)) (n : Nat) (t8 : List Row) (t9 t10 : Int) (t15 : List Fr) (t16 : Int) : Option (Bool × Unit) :=
  zas (fun A x => znP N A_2 (fun t8 t9 t10 t15 t16 => A ((t8, (t9, (t10, (t15, (t16, ()))))), ())) x.1.1 x.1.2.1 x.1.2.2.1 x.1.2.2.2.1 x.1.2.2.2.2.1) n ((t8, (t9, (t10, (t15, (t16, ()))))), ())
def znR (N : Nat) (A_2 : (List Row) -> Int -> Int -> Option (Bool × Unit)) (t8 : List Row) (t9 t10 : Int) : Option (Bool × Unit) :=
  let u1 := List.getD t8 t10.toNat zrow
  let u2 := Row.q0 u1
  let u3 := Row.q1 u1
  let u4 := Row.q2 u1
  let u5 := Row.q3 u1
  let u6 := Row.q4 u1
  let u7 := Row.q5 u1
  let u8 := Row.q6 u1
  let u9 := Row.q7 u1
  cond (hide (ltI t10 t9)) (must (leI (0 : Int) t10 && ltI t10 (↑t8.length : Int)) (znQ N A_2 N t8 t9 t10 ([Fr.mk (Fr.a0 u2) (Fr.a1 u2) (Fr.a2 u2) (Fr.a3 u2), Fr.mk (Fr.a0 u3) (Fr.a1 u3) (Fr.a2 u3) (Fr.a3 u3), Fr.mk (Fr.a0 u4) (Fr.a1 u4) (Fr.a2 u4) (Fr.a3 u4), Fr.mk (Fr.a0 u5) (Fr.a1 u5) (Fr.a2 u5) (Fr.a3 u5), Fr.mk (Fr.a0 u6) (Fr.a1 u6) (Fr.a2 u6) (Fr.a3 u6), Fr.mk (Fr.a0 u7) (Fr.a1 u7) (Fr.a2 u7) (Fr.a3 u7), Fr.mk (Fr.a0 u8) (Fr.a1 u8) (Fr.a2 u8) (Fr.a3 u8), Fr.mk (Fr.a0 u9) (Fr.a1 u9) (Fr.a2 u9) (Fr.a3 u9)]) (0 : Int))) (some ((true, ())))
def znS (N n : Nat) (t8 : List Row) (t9 t10 : Int) : Option (Bool × Unit) :=
  zas (fun A x => znR N (fun t8 t9 t10 => A ((t8, (t9, (t10, ()))), ())) x.1.1 x.1.2.1 x.1.2.2.1) n ((t8, (t9, (t10, ()))), ())
def p200 (N : Nat) (c0 v1 : Int) (v2 : List Row) (v3 : List Pr) : Option (Bool × Unit) :=
  znS N N v2 ((↑v2.length : Int)) (0 : Int)
def g200 (N : Nat) : Sg := sgK [(K.agg [.int, .int, .ro .row, .ro .pair] rfl)] [K.bool] fun x => p200 N x.1.1 x.1.2.1 x.1.2.2.1 x.1.2.2.2.1
def ztD : List (Nat × Head) := [
    (2, ⟨⟨24, [(8, .u (.c (.ro .row))), (9, .u (.c (.int))), (10, .u (.c (.int)))], []⟩, .exit 0⟩),
    (5, ⟨⟨24, [(8, .u (.c (.ro .row))), (9, .u (.c (.int))), (10, .u (.c (.int))), (15, .u (.vec .fr)), (16, .u (.c (.int)))], []⟩, .exit 2⟩)]
def ztE (N : Nat) : List (Nat × Sg) := [(79, g79 N)]
theorem znT (N : Nat) : za2 Try.prog pd.els (ztE N) := ⟨zqQ N, trivial⟩
theorem zr1 (N : Nat) : SgOK Try.prog pd.els 200 (g200 N) :=
  zaP za3 (zar (znT N)) Try.func200 (zau (by kernel_rfl)) [(K.agg [.int, .int, .ro .row, .ro .pair] rfl)] [K.bool] _ N ztD 4 fun x => by kernel_rfl
def zka (N : Nat) (A_12 : (List Pr) -> Int -> Int -> Int -> Int -> (List Row) -> (List Pr) -> Option (Bool × Unit)) (t28 : List Pr) (t29 t30 ob0_0 ob0_1 : Int) (ob0_2 : List Row) (ob0_3 : List Pr) : Option (Bool × Unit) :=
  cond (hide (ltI t30 t29)) (must (leI (0 : Int) t30 && ltI t30 (↑t28.length : Int)) (cond (hide (ltI (mnI (Pr.x (List.getD t28 t30.toNat (Pr.mk (0 : Int) (0 : Int)))) (Pr.y (List.getD t28 t30.toNat (Pr.mk (0 : Int) (0 : Int))))) (0 : Int))) (some ((false, ()))) (cond (hide (leI ob0_1 (mxI (Pr.x (List.getD t28 t30.toNat (Pr.mk (0 : Int) (0 : Int)))) (Pr.y (List.getD t28 t30.toNat (Pr.mk (0 : Int) (0 : Int))))))) (some ((false, ()))) (A_12 t28 t29 (hide (wr (t30 + (1 : Int)))) ob0_0 ob0_1 ob0_2 ob0_3)))) (some ((true, ())))
def zkb (N n : Nat) (t28 : List Pr) (t29 t30 ob0_0 ob0_1 : Int) (ob0_2 : List Row) (ob0_3 : List Pr) : Option (Bool × Unit) :=
  zas (fun A x => zka N (fun t28 t29 t30 ob0_0 ob0_1 ob0_2 ob0_3 => A (((), (t28, (t29, (t30, ())))), ((ob0_0, (ob0_1, (ob0_2, (ob0_3, ())))), ()))) x.1.2.1 x.1.2.2.1 x.1.2.2.2.1 x.2.1.1 x.2.1.2.1 x.2.1.2.2.1 x.2.1.2.2.2.1) n (((), (t28, (t29, (t30, ())))), ((ob0_0, (ob0_1, (ob0_2, (ob0_3, ())))), ()))
def znU (N : Nat) (A_2 : (List Row) -> Int -> Int -> Int -> Int -> (List Row) -> (List Pr) -> Option (Bool × Unit)) (A_5 : (List Row) -> Int -> Int -> (List Int) -> Int -> Int -> Int -> (List Row) -> (List Pr) -> Option (Bool × Unit)) (t10 : List Row) (t11 t12 : Int) (t17 : List Int) (t18 ob0_0 ob0_1 : Int) (ob0_2 : List Row) (ob0_3 : List Pr) : Option (Bool × Unit) :=
  cond (hide (ltI t18 (3 : Int))) (must (leI (0 : Int) t18 && (ltI t18 (↑(3 : Nat) : Int) && ltI t18 (↑t17.length : Int))) (cond (hide (leI ob0_1 (List.getD t17 t18.toNat (0 : Int)))) (some ((false, ()))) (A_5 t10 t11 t12 t17 (hide (wr (t18 + (1 : Int)))) ob0_0 ob0_1 ob0_2 ob0_3))) (A_2 t10 t11 (hide (wr (t12 + (1 : Int)))) ob0_0 ob0_1 ob0_2 ob0_3)
def znV (N : Nat) (A_2 : (List Row) -> Int -> Int -> Int -> Int -> (List Row) -> (List Pr) -> Option (Bool × Unit)) (n : Nat) (t10 : List Row) (t11 t12 : Int) (t17 : List Int) (t18 ob0_0 ob0_1 : Int) (ob0_2 : List Row) (ob0_3 : List Pr) : Option (Bool × Unit) :=
  zas (fun A x => znU N A_2 (fun t10 t11 t12 t17 t18 ob0_0 ob0_1 ob0_2 ob0_3 => A (((), (t10, (t11, (t12, (t17, (t18, ())))))), ((ob0_0, (ob0_1, (ob0_2, (ob0_3, ())))), ()))) x.1.2.1 x.1.2.2.1 x.1.2.2.2.1 x.1.2.2.2.2.1 x.1.2.2.2.2.2.1 x.2.1.1 x.2.1.2.1 x.2.1.2.2.1 x.2.1.2.2.2.1) n (((), (t10, (t11, (t12, (t17, (t18, ())))))), ((ob0_0, (ob0_1, (ob0_2, (ob0_3, ())))), ()))
def znW (N : Nat) (A_2 : (List Row) -> Int -> Int -> Int -> Int -> (List Row) -> (List Pr) -> Option (Bool × Unit)) (t10 : List Row) (t11 t12 ob0_0 ob0_1 : Int) (ob0_2 : List Row) (ob0_3 : List Pr) : Option (Bool × Unit) :=
  cond (hide (ltI t12 t11)) (must (leI (0 : Int) t12 && ltI t12 (↑t10.length : Int)) (znV N A_2 N t10 t11 t12 ([Row.w0 (List.getD t10 t12.toNat zrow), Row.w1 (List.getD t10 t12.toNat zrow), Row.w2 (List.getD t10 t12.toNat zrow)]) (0 : Int) ob0_0 ob0_1 ob0_2 ob0_3)) (zkb N N ob0_3 ((↑ob0_3.length : Int)) (0 : Int) ob0_0 ob0_1 ob0_2 ob0_3)
def znX (N n : Nat) (t10 : List Row) (t11 t12 ob0_0 ob0_1 : Int) (ob0_2 : List Row) (ob0_3 : List Pr) : Option (Bool × Unit) :=
  zas (fun A x => znW N (fun t10 t11 t12 ob0_0 ob0_1 ob0_2 ob0_3 => A (((), (t10, (t11, (t12, ())))), ((ob0_0, (ob0_1, (ob0_2, (ob0_3, ())))), ()))) x.1.2.1 x.1.2.2.1 x.1.2.2.2.1 x.2.1.1 x.2.1.2.1 x.2.1.2.2.1 x.2.1.2.2.2.1) n (((), (t10, (t11, (t12, ())))), ((ob0_0, (ob0_1, (ob0_2, (ob0_3, ())))), ()))
def p201 (N : Nat) (c0 v1 : Int) (v2 : List Row) (v3 : List Pr) : Option (Bool × Unit) :=
  znX N N v2 ((↑v2.length : Int)) (0 : Int) c0 v1 v2 v3
def g201 (N : Nat) : Sg := sgK [(K.agg [.int, .int, .ro .row, .ro .pair] rfl)] [K.bool] fun x => p201 N x.1.1 x.1.2.1 x.1.2.2.1 x.1.2.2.2.1
def ztF : List (Nat × Head) := [
    (2, ⟨⟨51, [(1, .u (.c (.ptr0 3000000 0))), (10, .u (.c (.ro .row))), (11, .u (.c (.int))), (12, .u (.c (.int)))], [(3000000, ⟨false, 0, 80, .lit [.int, .int, .ro .row, .ro .pair]⟩)]⟩, .exit 0⟩),
    (12, ⟨⟨51, [(1, .u (.c (.ptr0 13000000 0))), (28, .u (.c (.ro .pair))), (29, .u (.c (.int))), (30, .u (.c (.int)))], [(13000000, ⟨false, 0, 80, .lit [.int, .int, .ro .row, .ro .pair]⟩)]⟩, .exit 4⟩),
    (5, ⟨⟨51, [(1, .u (.c (.ptr0 6000000 0))), (10, .u (.c (.ro .row))), (11, .u (.c (.int))), (12, .u (.c (.int))), (17, .u (.vec .int)), (18, .u (.c (.int)))], [(6000000, ⟨false, 0, 80, .lit [.int, .int, .ro .row, .ro .pair]⟩)]⟩, .exit 2⟩)]
def ztG (N : Nat) : List (Nat × Sg) := []
theorem znY (N : Nat) : za2 Try.prog pd.els (ztG N) := trivial
theorem zr2 (N : Nat) : SgOK Try.prog pd.els 201 (g201 N) :=
  zaP za3 (zar (znY N)) Try.func201 (zau (by kernel_rfl)) [(K.agg [.int, .int, .ro .row, .ro .pair] rfl)] [K.bool] _ N ztF 4 fun x => by kernel_rfl
def p220 (N : Nat) (r0 : Row) : Option (Bool × Unit) :=
  Option.bind (p108 N (Stp.mk (7 : Int) r0.w0 (0 : Int) (0 : Int) (Fr.zero) (Fr.zero) (Fr.zero) (Fr.zero) (Fr.zero))) fun rr0 => cond (hide (leI (0 : Int) r0.w0)) (must (ltI (0 : Int) (↑rr0.1.length : Int)) (some ((hide (zaL r0 (List.getD rr0.1 (0 : Nat) zrow)), ())))) (some ((false, ())))
def g220 (N : Nat) : Sg := sgK [(K.st .row)] [K.bool] fun x => p220 N x.1
def ztH : List (Nat × Head) := [
    ]
def ztI (N : Nat) : List (Nat × Sg) := [(108, g108 N)]
theorem znZ (N : Nat) : za2 Try.prog pd.els (ztI N) := ⟨zj7 N, trivial⟩
theorem zr3 (N : Nat) : SgOK Try.prog pd.els 220 (g220 N) :=
  zaP za3 (zar (znZ N)) Try.func220 (zau (by kernel_rfl)) [(K.st .row)] [K.bool] _ N ztH 4 fun x => by kernel_rfl
def zn0 (N : Nat) (A_2 : (List Row) -> Int -> Int -> Int -> Int -> (List Row) -> (List Pr) -> Option (Bool × Unit)) (t6 : List Row) (t7 t8 ob0_0 ob0_1 : Int) (ob0_2 : List Row) (ob0_3 : List Pr) : Option (Bool × Unit) :=
  let u1 := List.getD t6 t8.toNat zrow
  let u2 := cond (hide (ltI (mnI (mnI (Row.w0 u1) (Row.w1 u1)) (Row.w2 u1)) (-1 : Int))) (some ((false, ()))) (A_2 t6 t7 (hide (wr (t8 + (1 : Int)))) ob0_0 ob0_1 ob0_2 ob0_3)
  let u3 := Row.q0 u1
  let u4 := Row.q1 u1
  let u5 := Row.q2 u1
  let u6 := Row.q3 u1
  let u7 := Row.q4 u1
  let u8 := Row.q5 u1
  let u9 := Row.q6 u1
  let u10 := Row.q7 u1
  cond (hide (ltI t8 t7)) (must (leI (0 : Int) t8 && ltI t8 (↑t6.length : Int)) (cond (hide (ltI t8 ob0_0)) (Option.bind (p220 N (Row.mk (Fr.mk (Fr.a0 u3) (Fr.a1 u3) (Fr.a2 u3) (Fr.a3 u3)) (Fr.mk (Fr.a0 u4) (Fr.a1 u4) (Fr.a2 u4) (Fr.a3 u4)) (Fr.mk (Fr.a0 u5) (Fr.a1 u5) (Fr.a2 u5) (Fr.a3 u5)) (Fr.mk (Fr.a0 u6) (Fr.a1 u6) (Fr.a2 u6) (Fr.a3 u6)) (Fr.mk (Fr.a0 u7) (Fr.a1 u7) (Fr.a2 u7) (Fr.a3 u7)) (Fr.mk (Fr.a0 u8) (Fr.a1 u8) (Fr.a2 u8) (Fr.a3 u8)) (Fr.mk (Fr.a0 u9) (Fr.a1 u9) (Fr.a2 u9) (Fr.a3 u9)) (Fr.mk (Fr.a0 u10) (Fr.a1 u10) (Fr.a2 u10) (Fr.a3 u10)) (Row.w0 u1) (Row.w1 u1) (Row.w2 u1))) fun r0 => cond (hide !r0.1) (some ((false, ()))) u2) u2)) (some ((true, ())))
def zn1 (N n : Nat) (t6 : List Row) (t7 t8 ob0_0 ob0_1 : Int) (ob0_2 : List Row) (ob0_3 : List Pr) : Option (Bool × Unit) :=
  zas (fun A x => zn0 N (fun t6 t7 t8 ob0_0 ob0_1 ob0_2 ob0_3 => A (((), (t6, (t7, (t8, ())))), ((ob0_0, (ob0_1, (ob0_2, (ob0_3, ())))), ()))) x.1.2.1 x.1.2.2.1 x.1.2.2.2.1 x.2.1.1 x.2.1.2.1 x.2.1.2.2.1 x.2.1.2.2.2.1) n (((), (t6, (t7, (t8, ())))), ((ob0_0, (ob0_1, (ob0_2, (ob0_3, ())))), ()))
def p202 (N : Nat) (c0 v1 : Int) (v2 : List Row) (v3 : List Pr) : Option (Bool × Unit) :=
  zn1 N N v2 ((↑v2.length : Int)) (0 : Int) c0 v1 v2 v3
def g202 (N : Nat) : Sg := sgK [(K.agg [.int, .int, .ro .row, .ro .pair] rfl)] [K.bool] fun x => p202 N x.1.1 x.1.2.1 x.1.2.2.1 x.1.2.2.2.1
def ztJ : List (Nat × Head) := [
    (2, ⟨⟨36, [(1, .u (.c (.ptr0 3000000 0))), (6, .u (.c (.ro .row))), (7, .u (.c (.int))), (8, .u (.c (.int)))], [(3000000, ⟨false, 0, 80, .lit [.int, .int, .ro .row, .ro .pair]⟩)]⟩, .exit 0⟩)]
def ztK (N : Nat) : List (Nat × Sg) := [(220, g220 N)]
theorem zn2 (N : Nat) : za2 Try.prog pd.els (ztK N) := ⟨zr3 N, trivial⟩
theorem zr4 (N : Nat) : SgOK Try.prog pd.els 202 (g202 N) :=
  zaP za3 (zar (zn2 N)) Try.func202 (zau (by kernel_rfl)) [(K.agg [.int, .int, .ro .row, .ro .pair] rfl)] [K.bool] _ N ztJ 4 fun x => by kernel_rfl
def p119 (N : Nat) (c0 v1 : Int) (v2 : List Row) (v3 : List Pr) : Option (Int × Unit) :=
  let u1 := some (((10 : Int), ()))
  let u2 := some (((1 : Int), ()))
  let u3 := some (((4 : Int), ()))
  let u4 := some (((3 : Int), ()))
  let u5 := some (((0 : Int), ()))
  let u6 := p200 N c0 v1 v2 v3
  let u7 := p201 N c0 v1 v2 v3
  let u8 := p202 N c0 v1 v2 v3
  let u9 := hide (ltI c0 (0 : Int))
  let u10 := hide (ltI v1 (0 : Int))
  let u11 := hide (ltI (↑v2.length : Int) c0)
  let u12 := some (((8 : Int), ()))
  let u13 := hide (ltI (64 : Int) (↑v2.length : Int))
  let u14 := hide (ltI (200 : Int) v1)
  cond (hide (ltI (8 : Int) c0)) (cond (hide (ltI (8 : Int) c0)) u12 (cond u9 (cond u9 u2 (Option.bind u6 fun r33 => cond (hide !r33.1) u3 (Option.bind u7 fun r34 => cond (hide !r34.1) u1 (Option.bind u8 fun r35 => cond (hide !r35.1) u4 u5)))) (cond u10 (cond u10 u2 (Option.bind u6 fun r30 => cond (hide !r30.1) u3 (Option.bind u7 fun r31 => cond (hide !r31.1) u1 (Option.bind u8 fun r32 => cond (hide !r32.1) u4 u5)))) (cond u11 u2 (Option.bind u6 fun r27 => cond (hide !r27.1) u3 (Option.bind u7 fun r28 => cond (hide !r28.1) u1 (Option.bind u8 fun r29 => cond (hide !r29.1) u4 u5))))))) (cond u14 (cond u14 u12 (cond u9 (cond u9 u2 (Option.bind u6 fun r24 => cond (hide !r24.1) u3 (Option.bind u7 fun r25 => cond (hide !r25.1) u1 (Option.bind u8 fun r26 => cond (hide !r26.1) u4 u5)))) (cond u10 (cond u10 u2 (Option.bind u6 fun r21 => cond (hide !r21.1) u3 (Option.bind u7 fun r22 => cond (hide !r22.1) u1 (Option.bind u8 fun r23 => cond (hide !r23.1) u4 u5)))) (cond u11 u2 (Option.bind u6 fun r18 => cond (hide !r18.1) u3 (Option.bind u7 fun r19 => cond (hide !r19.1) u1 (Option.bind u8 fun r20 => cond (hide !r20.1) u4 u5))))))) (cond u13 (cond u13 u12 (cond u9 (cond u9 u2 (Option.bind u6 fun r15 => cond (hide !r15.1) u3 (Option.bind u7 fun r16 => cond (hide !r16.1) u1 (Option.bind u8 fun r17 => cond (hide !r17.1) u4 u5)))) (cond u10 (cond u10 u2 (Option.bind u6 fun r12 => cond (hide !r12.1) u3 (Option.bind u7 fun r13 => cond (hide !r13.1) u1 (Option.bind u8 fun r14 => cond (hide !r14.1) u4 u5)))) (cond u11 u2 (Option.bind u6 fun r9 => cond (hide !r9.1) u3 (Option.bind u7 fun r10 => cond (hide !r10.1) u1 (Option.bind u8 fun r11 => cond (hide !r11.1) u4 u5))))))) (cond (hide (ltI (200 : Int) (↑v3.length : Int))) u12 (cond u9 (cond u9 u2 (Option.bind u6 fun r6 => cond (hide !r6.1) u3 (Option.bind u7 fun r7 => cond (hide !r7.1) u1 (Option.bind u8 fun r8 => cond (hide !r8.1) u4 u5)))) (cond u10 (cond u10 u2 (Option.bind u6 fun r3 => cond (hide !r3.1) u3 (Option.bind u7 fun r4 => cond (hide !r4.1) u1 (Option.bind u8 fun r5 => cond (hide !r5.1) u4 u5)))) (cond u11 u2 (Option.bind u6 fun r0 => cond (hide !r0.1) u3 (Option.bind u7 fun r1 => cond (hide !r1.1) u1 (Option.bind u8 fun r2 => cond (hide !r2.1) u4 u5)))))))))
def g119 (N : Nat) : Sg := sgK [(K.agg [.int, .int, .ro .row, .ro .pair] rfl)] [K.int] fun x => p119 N x.1.1 x.1.2.1 x.1.2.2.1 x.1.2.2.2.1
def ztL : List (Nat × Head) := [
    ]
def ztM (N : Nat) : List (Nat × Sg) := [(200, g200 N), (201, g201 N), (202, g202 N)]
theorem zn3 (N : Nat) : za2 Try.prog pd.els (ztM N) := ⟨zr1 N, ⟨zr2 N, ⟨zr4 N, trivial⟩⟩⟩
theorem zn4 (N : Nat) : SgOK Try.prog pd.els 119 (g119 N) :=
  zaP za3 (zar (zn3 N)) Try.func119 (zau (by kernel_rfl)) [(K.agg [.int, .int, .ro .row, .ro .pair] rfl)] [K.int] _ N ztL 4 fun x => by kernel_rfl
end
section
def zdJ (N : Nat) (A_11 : Int -> Int -> (List Row) -> (List Row) -> (List Row) -> Option (List Row × Unit)) (t26 t27 : Int) (ob0_0 ob0_1 newslice6o : List Row) : Option (List Row × Unit) :=
  cond (hide (ltI t27 t26)) (cond (eqI t27 (↑(0 : Nat) : Int)) (must (leN ((List.length newslice6o + List.length ob0_0) * (280 : Nat)) (140737488355328 : Nat)) (A_11 t26 (hide (wr ((↑(0 : Nat) : Int) + (1 : Int)))) ob0_0 ob0_1 (newslice6o ++ ob0_0))) (must (eqI t27 (↑((0 : Nat) + (1 : Nat)) : Int)) (must (leN ((List.length newslice6o + List.length ob0_1) * (280 : Nat)) (140737488355328 : Nat)) (A_11 t26 (hide (wr ((↑((0 : Nat) + (1 : Nat)) : Int) + (1 : Int)))) ob0_0 ob0_1 (newslice6o ++ ob0_1))))) (some ((newslice6o, ())))
def zdK (N n : Nat) (t26 t27 : Int) (ob0_0 ob0_1 newslice6o : List Row) : Option (List Row × Unit) :=
  zas (fun A x => zdJ N (fun t26 t27 ob0_0 ob0_1 newslice6o => A (((), ((), (t26, (t27, ())))), ((ob0_0, (ob0_1, ())), (newslice6o, ())))) x.1.2.2.1 x.1.2.2.2.1 x.2.1.1 x.2.1.2.1 x.2.2.1) n (((), ((), (t26, (t27, ())))), ((ob0_0, (ob0_1, ())), (newslice6o, ())))
def zeE (N : Nat) (A_3 : Int -> Int -> Int -> (List Row) -> (List Row) -> Option (List Row × Unit)) (size3 t10 t11 : Int) (ob0_0 ob0_1 : List Row) : Option (List Row × Unit) :=
  cond (hide (ltI t11 t10)) (cond (eqI t11 (↑(0 : Nat) : Int)) (cond (hide (ltI (hide (wr (size3 + (↑ob0_0.length : Int)))) (0 : Int))) (none) (A_3 (hide (wr (size3 + (↑ob0_0.length : Int)))) t10 (hide (wr ((↑(0 : Nat) : Int) + (1 : Int)))) ob0_0 ob0_1)) (must (eqI t11 (↑((0 : Nat) + (1 : Nat)) : Int)) (cond (hide (ltI (hide (wr (size3 + (↑ob0_1.length : Int)))) (0 : Int))) (none) (A_3 (hide (wr (size3 + (↑ob0_1.length : Int)))) t10 (hide (wr ((↑((0 : Nat) + (1 : Nat)) : Int) + (1 : Int)))) ob0_0 ob0_1)))) (Option.bind (zff N size3) fun rr0 => zdK N N ((↑(2 : Nat) : Int)) (0 : Int) ob0_0 ob0_1 rr0.1)
def zeF (N n : Nat) (size3 t10 t11 : Int) (ob0_0 ob0_1 : List Row) : Option (List Row × Unit) :=
  zas (fun A x => zeE N (fun size3 t10 t11 ob0_0 ob0_1 => A (((), (size3, ((), (t10, (t11, ()))))), ((ob0_0, (ob0_1, ())), ()))) x.1.2.1 x.1.2.2.2.1 x.1.2.2.2.2.1 x.2.1.1 x.2.1.2.1) n (((), (size3, ((), (t10, (t11, ()))))), ((ob0_0, (ob0_1, ())), ()))
def zfh (N : Nat) (slices0 v1 : List Row) : Option (List Row × Unit) :=
  zeF N N (0 : Int) ((↑(List.length [C.ro El.row slices0, C.ro El.row v1]) : Int)) (0 : Int) slices0 v1
def zhR (N : Nat) : Sg := sgK [(K.agg [.ro .row, .ro .row] rfl)] [(K.ro .row)] fun x => zfh N x.1.1 x.1.2.1
def zl3 : List (Nat × Head) := [
    (3, ⟨⟨36, [(0, .u (.c (.asl 4000000 0 2))), (3, .u (.c (.int))), (9, .u (.c (.asl 4000000 0 2))), (10, .u (.c (.int))), (11, .u (.c (.int)))], [(4000000, ⟨false, 0, 1000000, .lit [.ro .row, .ro .row]⟩)]⟩, .exit 0⟩),
    (11, ⟨⟨36, [(6, .u (.c (.row 12000001))), (25, .u (.c (.asl 12000000 0 2))), (26, .u (.c (.int))), (27, .u (.c (.int)))], [(12000000, ⟨false, 0, 1000000, .lit [.ro .row, .ro .row]⟩), (12000001, ⟨true, 0, 116, .vec .row⟩)]⟩, .exit 2⟩)]
def zl4 (N : Nat) : List (Nat × Sg) := [(3000219, zhO N)]
theorem zhS (N : Nat) : za2 Try.prog pd.els (zl4 N) := ⟨zj6 N, trivial⟩
theorem zf6 (N : Nat) : SgOK Try.prog pd.els 2000198 (zhR N) :=
  zs5 za3 (zar (zhS N)) Try.func198 (zau (by kernel_rfl)) [(K.agg [.ro .row, .ro .row] rfl)] [(K.ro .row)] _ N zl3 4 fun x => by kernel_rfl
def p113 (N : Nat) : Option (Unit × (Int × List Row × List Row × List Pr × Unit) × Unit) :=
  some (((), ((0 : Int), [], [], [], ()), ()))
def g113 (N : Nat) : Sg := sgK [] [K.bx, (K.agg [.int, .ro .row, .ro .row, .ro .pair] rfl)] fun x => p113 N
def ztN : List (Nat × Head) := [
    ]
def ztO (N : Nat) : List (Nat × Sg) := []
theorem zn5 (N : Nat) : za2 Try.prog pd.els (ztO N) := trivial
theorem zn6 (N : Nat) : SgOK Try.prog pd.els 113 (g113 N) :=
  zaP za3 (zar (zn5 N)) Try.func113 (zau (by kernel_rfl)) [] [K.bx, (K.agg [.int, .ro .row, .ro .row, .ro .pair] rfl)] _ N ztN 4 fun x => by kernel_rfl
def p114 (N : Nat) (b0 : Int) (s1 v2 : List Row) (v3 : List Pr) (v4 : Stp) : Option ((Int × List Row × List Row × List Pr × Unit) × Int × Int × Unit) :=
  let u2 := (b0, s1, v2, v3, ())
  let u1 := some ((u2, (0 : Int), (8 : Int), ()))
  cond (hide false) (some ((u2, (0 : Int), (1 : Int), ()))) (Option.bind (p192 N (v4) b0) fun rr0 => cond (hide !eqI rr0.1 (0 : Int)) (some ((u2, (0 : Int), Prod.fst rr0, ()))) (Option.bind (p108 N (v4)) fun rr1 => cond (hide !eqI (rr1.2.1) (0 : Int)) (some ((u2, (0 : Int), Prod.fst rr1.2, ()))) (cond (hide (ltI (64 : Int) (hide (wr (hide (wr ((↑s1.length : Int) + (↑v2.length : Int))) + (↑rr1.1.length : Int)))))) u1 (cond (hide (eqI v4.kind (1 : Int))) (cond (hide (eqI b0 (200 : Int))) u1 (some (((hide (wr (b0 + (1 : Int))), s1, v2, v3, ()), hide (wr (hide (wr (b0 + (1 : Int))) - (1 : Int))), (0 : Int), ())))) (cond (hide (eqI v4.kind (6 : Int))) (cond (hide (eqI (↑v3.length : Int) (200 : Int))) u1 (must (leN ((List.length v3 + List.length [Pr.mk v4.v0 v4.v1]) * (16 : Nat)) (140737488355328 : Nat)) (some (((b0, s1, v2, v3 ++ [Pr.mk v4.v0 v4.v1], ()), (0 : Int), (0 : Int), ()))))) (cond (hide (eqI v4.kind (7 : Int))) (cond (hide (eqI (↑s1.length : Int) (8 : Int))) u1 (must (leN ((List.length s1 + List.length rr1.1) * (280 : Nat)) (140737488355328 : Nat)) (some (((b0, s1 ++ Prod.fst rr1, v2, v3, ()), (0 : Int), (0 : Int), ()))))) (must (leN ((List.length v2 + List.length rr1.1) * (280 : Nat)) (140737488355328 : Nat)) (some (((b0, s1, v2 ++ Prod.fst rr1, v3, ()), (0 : Int), (0 : Int), ()))))))))))
def g114 (N : Nat) : Sg := sgIO 3 [(K.agg [.int, .ro .row, .ro .row, .ro .pair] rfl), (K.st .step)] [(K.agg [.int, .ro .row, .ro .row, .ro .pair] rfl), K.int, K.int] fun x => p114 N x.1.1 x.1.2.1 x.1.2.2.1 x.1.2.2.2.1 x.2.1
def ztP : List (Nat × Head) := [
    ]
def ztQ (N : Nat) : List (Nat × Sg) := [(192, g192 N), (108, g108 N)]
theorem zn7 (N : Nat) : za2 Try.prog pd.els (ztQ N) := ⟨znO N, ⟨zj7 N, trivial⟩⟩
theorem zn8 (N : Nat) : SgOK Try.prog pd.els 114 (g114 N) :=
  zj3 za3 (zar (zn7 N)) Try.func114 (zau (by kernel_rfl)) 3 (by decide) [(K.agg [.int, .ro .row, .ro .row, .ro .pair] rfl), (K.st .step)] [(K.agg [.int, .ro .row, .ro .row, .ro .pair] rfl), K.int, K.int] _ N ztP 4 fun x => by kernel_rfl
def p117 (N : Nat) (b0 : Int) (v1 v2 : List Row) (v3 : List Pr) : Option ((Int × List Row × List Row × List Pr × Unit) × (Int × Int × List Row × List Pr × Unit) × Unit) :=
  cond (hide false) (some (((b0, v1, v2, v3, ()), ((0 : Int), (0 : Int), [], [], ()), ()))) (Option.bind (zfh N v1 v2) fun rr0 => Option.bind (p199 N v3) fun rr1 => some (((b0, v1, v2, v3, ()), ((↑v1.length : Int), b0, Prod.fst rr0, Prod.fst rr1, ()), ())))
def g117 (N : Nat) : Sg := sgIO 3 [(K.agg [.int, .ro .row, .ro .row, .ro .pair] rfl)] [(K.agg [.int, .ro .row, .ro .row, .ro .pair] rfl), (K.agg [.int, .int, .ro .row, .ro .pair] rfl)] fun x => p117 N x.1.1 x.1.2.1 x.1.2.2.1 x.1.2.2.2.1
def ztR : List (Nat × Head) := [
    ]
def ztS (N : Nat) : List (Nat × Sg) := [(2000198, zhR N), (199, g199 N)]
theorem zn9 (N : Nat) : za2 Try.prog pd.els (ztS N) := ⟨zf6 N, ⟨znA N, trivial⟩⟩
theorem zoa (N : Nat) : SgOK Try.prog pd.els 117 (g117 N) :=
  zj3 za3 (zar (zn9 N)) Try.func117 (zau (by kernel_rfl)) 3 (by decide) [(K.agg [.int, .ro .row, .ro .row, .ro .pair] rfl)] [(K.agg [.int, .ro .row, .ro .row, .ro .pair] rfl), (K.agg [.int, .int, .ro .row, .ro .pair] rfl)] _ N ztR 4 fun x => by kernel_rfl
def zfi (N : Nat) (b0 : Stp) : Option (Int × Int × Unit) :=
  must (hide true) (some (((0 : Int), (1 : Int), ())))
def zlc (N : Nat) : Sg := sgK [K.nil, (K.st .step)] [K.int, K.int] fun x => zfi N x.2.1
def zl5 : List (Nat × Head) := [
    ]
def zl6 (N : Nat) : List (Nat × Sg) := [(192, g192 N), (108, g108 N)]
theorem zhT (N : Nat) : za2 Try.prog pd.els (zl6 N) := ⟨znO N, ⟨zj7 N, trivial⟩⟩
theorem zkc (N : Nat) : SgOK Try.prog pd.els 1000114 (zlc N) :=
  zaP za3 (zar (zhT N)) Try.func114 (zau (by kernel_rfl)) [K.nil, (K.st .step)] [K.int, K.int] _ N zl5 4 fun x => by kernel_rfl
def zfj (N : Nat) : Option ((Int × Int × List Row × List Pr × Unit) × Unit) :=
  must (hide true) (some ((((0 : Int), (0 : Int), [], [], ()), ())))
def zld (N : Nat) : Sg := sgK [K.nil] [(K.agg [.int, .int, .ro .row, .ro .pair] rfl)] fun x => zfj N
def zl7 : List (Nat × Head) := [
    ]
def zl8 (N : Nat) : List (Nat × Sg) := [(2000198, zhR N), (199, g199 N)]
theorem zhU (N : Nat) : za2 Try.prog pd.els (zl8 N) := ⟨zf6 N, ⟨znA N, trivial⟩⟩
theorem zkd (N : Nat) : SgOK Try.prog pd.els 1000117 (zld N) :=
  zaP za3 (zar (zhU N)) Try.func117 (zau (by kernel_rfl)) [K.nil] [(K.agg [.int, .int, .ro .row, .ro .pair] rfl)] _ N zl7 4 fun x => by kernel_rfl
def zf7 (N : Nat) (A_1000 : Int -> Int -> Int -> (List Row) -> (List Pr) -> Option (Int × Unit)) (log3 ob0_0 ob0_1 : Int) (ob0_2 : List Row) (ob0_3 : List Pr) : Option (Int × Unit) :=
  cond (hide (ltI log3 (6 : Int))) (cond (hide (ltI (hide (shlI (1 : Int) (UInt64.toNat (hide (u64I log3))))) (↑ob0_2.length : Int))) (A_1000 (hide (wr (log3 + (1 : Int)))) ob0_0 ob0_1 ob0_2 ob0_3) (some ((log3, ())))) (some ((log3, ())))
def zf8 (N n : Nat) (log3 ob0_0 ob0_1 : Int) (ob0_2 : List Row) (ob0_3 : List Pr) : Option (Int × Unit) :=
  zas (fun A x => zf7 N (fun log3 ob0_0 ob0_1 ob0_2 ob0_3 => A (((), (log3, ())), ((ob0_0, (ob0_1, (ob0_2, (ob0_3, ())))), ()))) x.1.2.1 x.2.1.1 x.2.1.2.1 x.2.1.2.2.1 x.2.1.2.2.2.1) n (((), (log3, ())), ((ob0_0, (ob0_1, (ob0_2, (ob0_3, ())))), ()))
def p120 (N : Nat) (c0 v1 : Int) (v2 : List Row) (v3 : List Pr) : Option (Int × Unit) :=
  zf8 N N (1 : Int) c0 v1 v2 v3
def g120 (N : Nat) : Sg := sgK [(K.agg [.int, .int, .ro .row, .ro .pair] rfl)] [K.int] fun x => p120 N x.1.1 x.1.2.1 x.1.2.2.1 x.1.2.2.2.1
def ztT : List (Nat × Head) := [
    (1000, ⟨⟨18, [(1, .u (.c (.ptr0 1001000000 0))), (3, .u (.c (.int)))], [(1001000000, ⟨false, 0, 80, .lit [.int, .int, .ro .row, .ro .pair]⟩)]⟩, .fall⟩)]
def ztU (N : Nat) : List (Nat × Sg) := []
theorem zob (N : Nat) : za2 Try.prog pd.els (ztU N) := trivial
theorem zoc (N : Nat) : SgOK Try.prog pd.els 120 (g120 N) :=
  zaP za3 (zar (zob N)) Try.func120 (zau (by kernel_rfl)) [(K.agg [.int, .int, .ro .row, .ro .pair] rfl)] [K.int] _ N ztT 4 fun x => by kernel_rfl
def p112 (N : Nat) : Option (Bool × Unit) :=
  Option.bind (p113 N) fun rr0 => Option.bind (p114 N (Prod.fst (rr0.2.1)) (Prod.fst (Prod.snd (rr0.2.1))) (Prod.fst (Prod.snd (Prod.snd (rr0.2.1)))) (Prod.fst (Prod.snd (Prod.snd (Prod.snd (rr0.2.1))))) (Stp.mk (1 : Int) (0 : Int) (0 : Int) (0 : Int) (Fr.zero) (Fr.zero) (Fr.zero) (Fr.zero) (Fr.zero))) fun rr1 => Option.bind (p114 N (rr1.1.1) (Prod.fst (rr1.1.2)) (Prod.fst (Prod.snd (rr1.1.2))) (Prod.fst (Prod.snd (Prod.snd (rr1.1.2)))) (Stp.mk (1 : Int) (0 : Int) (0 : Int) (0 : Int) (Fr.zero) (Fr.zero) (Fr.zero) (Fr.zero) (Fr.zero))) fun rr2 => Option.bind (p114 N (rr2.1.1) (Prod.fst (rr2.1.2)) (Prod.fst (Prod.snd (rr2.1.2))) (Prod.fst (Prod.snd (Prod.snd (rr2.1.2)))) (Stp.mk (3 : Int) (0 : Int) (0 : Int) (0 : Int) (Fr.zero) (Fr.zero) (Fr.zero) (Fr.zero) (Fr.zero))) fun rr3 => Option.bind (p117 N (rr3.1.1) (Prod.fst (rr3.1.2)) (Prod.fst (Prod.snd (rr3.1.2))) (Prod.fst (Prod.snd (Prod.snd (rr3.1.2))))) fun rr4 => let w0 := Prod.snd (rr4.2.1); let w1 := Prod.fst (Prod.snd w0); cond (hide (eqI (Prod.fst (rr1.2.2)) (0 : Int))) (cond (hide (eqI (rr1.2.1) (0 : Int))) (cond (hide (eqI (Prod.fst (rr2.2.2)) (0 : Int))) (cond (hide (eqI (rr2.2.1) (1 : Int))) (cond (hide (eqI (Prod.fst (rr3.2.2)) (0 : Int))) (cond (hide (eqI (Prod.fst w0) (2 : Int))) (cond (hide (eqI (↑(List.length w1) : Int) (1 : Int))) (Option.bind (p120 N (Prod.fst (rr4.2.1)) (Prod.fst w0) w1 (Prod.fst (Prod.snd (Prod.snd w0)))) fun rr5 => cond (hide (eqI rr5.1 (1 : Int))) (Option.bind (p119 N (Prod.fst (rr4.2.1)) (Prod.fst w0) w1 (Prod.fst (Prod.snd (Prod.snd w0)))) fun rr6 => some ((hide (eqI rr6.1 (0 : Int)), ()))) (some ((false, ())))) (some ((false, ())))) (some ((false, ())))) (some ((false, ())))) (some ((false, ())))) (some ((false, ())))) (some ((false, ())))) (some ((false, ())))
def g112 (N : Nat) : Sg := sgK [] [K.bool] fun x => p112 N
def ztV : List (Nat × Head) := [
    ]
def ztW (N : Nat) : List (Nat × Sg) := [(113, g113 N), (114, g114 N), (117, g117 N), (120, g120 N), (119, g119 N)]
theorem zod (N : Nat) : za2 Try.prog pd.els (ztW N) := ⟨zn6 N, ⟨zn8 N, ⟨zoa N, ⟨zoc N, ⟨zn4 N, trivial⟩⟩⟩⟩⟩
theorem zr5 (N : Nat) : SgOK Try.prog pd.els 112 (g112 N) :=
  zaP za3 (zar (zod N)) Try.func112 (zau (by kernel_rfl)) [] [K.bool] _ N ztV 4 fun x => by kernel_rfl
def zoe (N : Nat) (A_9 : Int -> Int -> Int -> (List Row) -> (List Pr) -> Int -> Int -> (List Row) -> (List Pr) -> Option (Bool × Unit)) (i6 ob0_0 ob0_1 : Int) (ob0_2 : List Row) (ob0_3 : List Pr) (ob1_0 ob1_1 : Int) (ob1_2 : List Row) (ob1_3 : List Pr) : Option (Bool × Unit) :=
  cond (hide (ltI i6 (↑ob0_3.length : Int))) (must (leI (0 : Int) i6 && ltI i6 (↑ob0_3.length : Int)) (must (leI (0 : Int) i6 && ltI i6 (↑ob1_3.length : Int)) (cond (hide !eqL El.int [Pr.x (List.getD ob0_3 i6.toNat (Pr.mk (0 : Int) (0 : Int))), Pr.y (List.getD ob0_3 i6.toNat (Pr.mk (0 : Int) (0 : Int)))] [Pr.x (List.getD ob1_3 i6.toNat (Pr.mk (0 : Int) (0 : Int))), Pr.y (List.getD ob1_3 i6.toNat (Pr.mk (0 : Int) (0 : Int)))]) (some ((false, ()))) (A_9 (hide (wr (i6 + (1 : Int)))) ob0_0 ob0_1 ob0_2 ob0_3 ob1_0 ob1_1 ob1_2 ob1_3)))) (some ((true, ())))
def zof (N n : Nat) (i6 ob0_0 ob0_1 : Int) (ob0_2 : List Row) (ob0_3 : List Pr) (ob1_0 ob1_1 : Int) (ob1_2 : List Row) (ob1_3 : List Pr) : Option (Bool × Unit) :=
  zas (fun A x => zoe N (fun i6 ob0_0 ob0_1 ob0_2 ob0_3 ob1_0 ob1_1 ob1_2 ob1_3 => A (((), ((), (i6, ()))), ((ob0_0, (ob0_1, (ob0_2, (ob0_3, ())))), ((ob1_0, (ob1_1, (ob1_2, (ob1_3, ())))), ())))) x.1.2.2.1 x.2.1.1 x.2.1.2.1 x.2.1.2.2.1 x.2.1.2.2.2.1 x.2.2.1.1 x.2.2.1.2.1 x.2.2.1.2.2.1 x.2.2.1.2.2.2.1) n (((), ((), (i6, ()))), ((ob0_0, (ob0_1, (ob0_2, (ob0_3, ())))), ((ob1_0, (ob1_1, (ob1_2, (ob1_3, ())))), ())))
def zog (N : Nat) (A_4 : Int -> Int -> Int -> (List Row) -> (List Pr) -> Int -> Int -> (List Row) -> (List Pr) -> Option (Bool × Unit)) (i5 ob0_0 ob0_1 : Int) (ob0_2 : List Row) (ob0_3 : List Pr) (ob1_0 ob1_1 : Int) (ob1_2 : List Row) (ob1_3 : List Pr) : Option (Bool × Unit) :=
  cond (hide (ltI i5 (↑ob0_2.length : Int))) (must (leI (0 : Int) i5 && ltI i5 (↑ob0_2.length : Int)) (must (leI (0 : Int) i5 && ltI i5 (↑ob1_2.length : Int)) (cond (hide !(zaL (List.getD ob0_2 i5.toNat zrow) (List.getD ob1_2 i5.toNat zrow))) (some ((false, ()))) (A_4 (hide (wr (i5 + (1 : Int)))) ob0_0 ob0_1 ob0_2 ob0_3 ob1_0 ob1_1 ob1_2 ob1_3)))) (zof N N (0 : Int) ob0_0 ob0_1 ob0_2 ob0_3 ob1_0 ob1_1 ob1_2 ob1_3)
def zoh (N n : Nat) (i5 ob0_0 ob0_1 : Int) (ob0_2 : List Row) (ob0_3 : List Pr) (ob1_0 ob1_1 : Int) (ob1_2 : List Row) (ob1_3 : List Pr) : Option (Bool × Unit) :=
  zas (fun A x => zog N (fun i5 ob0_0 ob0_1 ob0_2 ob0_3 ob1_0 ob1_1 ob1_2 ob1_3 => A (((), ((), (i5, ()))), ((ob0_0, (ob0_1, (ob0_2, (ob0_3, ())))), ((ob1_0, (ob1_1, (ob1_2, (ob1_3, ())))), ())))) x.1.2.2.1 x.2.1.1 x.2.1.2.1 x.2.1.2.2.1 x.2.1.2.2.2.1 x.2.2.1.1 x.2.2.1.2.1 x.2.2.1.2.2.1 x.2.2.1.2.2.2.1) n (((), ((), (i5, ()))), ((ob0_0, (ob0_1, (ob0_2, (ob0_3, ())))), ((ob1_0, (ob1_1, (ob1_2, (ob1_3, ())))), ())))
def p116 (N : Nat) (a0 b1 : Int) (v2 : List Row) (v3 : List Pr) (v4 v5 : Int) (v6 : List Row) (v7 : List Pr) : Option (Bool × Unit) :=
  cond (hide !eqI a0 v4) (some ((false, ()))) (cond (hide !eqI b1 v5) (some ((false, ()))) (cond (hide !eqI (↑v2.length : Int) (↑v6.length : Int)) (some ((false, ()))) (cond (hide !eqI (↑v3.length : Int) (↑v7.length : Int)) (some ((false, ()))) (zoh N N (0 : Int) a0 b1 v2 v3 v4 v5 v6 v7))))
def g116 (N : Nat) : Sg := sgK [(K.agg [.int, .int, .ro .row, .ro .pair] rfl), (K.agg [.int, .int, .ro .row, .ro .pair] rfl)] [K.bool] fun x => p116 N x.1.1 x.1.2.1 x.1.2.2.1 x.1.2.2.2.1 x.2.1.1 x.2.1.2.1 x.2.1.2.2.1 x.2.1.2.2.2.1
def ztX : List (Nat × Head) := [
    (4, ⟨⟨73, [(2, .u (.c (.ptr0 5000000 0))), (3, .u (.c (.ptr0 5000001 0))), (5, .u (.c (.int)))], [(5000000, ⟨false, 0, 80, .lit [.int, .int, .ro .row, .ro .pair]⟩), (5000001, ⟨false, 0, 80, .lit [.int, .int, .ro .row, .ro .pair]⟩)]⟩, .exit 0⟩),
    (9, ⟨⟨73, [(2, .u (.c (.ptr0 10000000 0))), (3, .u (.c (.ptr0 10000001 0))), (6, .u (.c (.int)))], [(10000000, ⟨false, 0, 80, .lit [.int, .int, .ro .row, .ro .pair]⟩), (10000001, ⟨false, 0, 80, .lit [.int, .int, .ro .row, .ro .pair]⟩)]⟩, .exit 2⟩)]
def ztY (N : Nat) : List (Nat × Sg) := []
theorem zoi (N : Nat) : za2 Try.prog pd.els (ztY N) := trivial
theorem zr6 (N : Nat) : SgOK Try.prog pd.els 116 (g116 N) :=
  zaP za3 (zar (zoi N)) Try.func116 (zau (by kernel_rfl)) [(K.agg [.int, .int, .ro .row, .ro .pair] rfl), (K.agg [.int, .int, .ro .row, .ro .pair] rfl)] [K.bool] _ N ztX 4 fun x => by kernel_rfl
end
section
def p218 (N : Nat) : Option (Fr × Unit) :=
  Option.bind (p173 N (1 : UInt64)) fun rr0 => some ((rr0.1, ()))
def g218 (N : Nat) : Sg := sgK [] [K.fr] fun x => p218 N
def ztZ : List (Nat × Head) := [
    ]
def zt0 (N : Nat) : List (Nat × Sg) := [(173, g173 N)]
theorem zoj (N : Nat) : za2 Try.prog pd.els (zt0 N) := ⟨zrY N, trivial⟩
theorem zr7 (N : Nat) : SgOK Try.prog pd.els 218 (g218 N) :=
  zaP za3 (zar (zoj N)) Try.func218 (zau (by kernel_rfl)) [] [K.fr] _ N ztZ 4 fun x => by kernel_rfl
def zke (N : Nat) (A_14 : Int -> Row -> (List Int) -> Option (List Row × Int × Unit)) (i7 : Int) (ob0 : Row) (ob1 : List Int) : Option (List Row × Int × Unit) :=
  let u1 := mxI (List.getD ob1 i7.toNat (0 : Int)) (-1 : Int)
  let u2 := (↑((0 : Nat) + (1 : Nat) + (1 : Nat)) : Int)
  let u3 := (↑((0 : Nat) + (1 : Nat)) : Int)
  let u4 := (↑(0 : Nat) : Int)
  cond (hide (ltI i7 (3 : Int))) (must (leI (0 : Int) i7 && ltI i7 (↑(3 : Nat) : Int)) (cond (eqI i7 u4) (must (eqI i7 u4) (A_14 (hide (wr (u4 + (1 : Int)))) (Row.mk (ob0.q0) (ob0.q1) (ob0.q2) (ob0.q3) (ob0.q4) (ob0.q5) (ob0.q6) (ob0.q7) u1 ob0.w1 ob0.w2) ob1)) (cond (eqI i7 u3) (must (eqI i7 u3) (A_14 (hide (wr (u3 + (1 : Int)))) (Row.mk (ob0.q0) (ob0.q1) (ob0.q2) (ob0.q3) (ob0.q4) (ob0.q5) (ob0.q6) (ob0.q7) ob0.w0 u1 ob0.w2) ob1)) (must (eqI i7 u2) (must (eqI i7 u2) (A_14 (hide (wr (u2 + (1 : Int)))) (Row.mk (ob0.q0) (ob0.q1) (ob0.q2) (ob0.q3) (ob0.q4) (ob0.q5) (ob0.q6) (ob0.q7) ob0.w0 ob0.w1 u1) ob1)))))) (some (([ob0], (0 : Int), ())))
def zkf (N n : Nat) (i7 : Int) (ob0 : Row) (ob1 : List Int) : Option (List Row × Int × Unit) :=
  zas (fun A x => zke N (fun i7 ob0 ob1 => A (((), ((), (i7, ()))), (ob0, (ob1, ())))) x.1.2.2.1 x.2.1 x.2.2.1) n (((), ((), (i7, ()))), (ob0, (ob1, ())))
def zkg (N : Nat) (A_10 : Int -> Stp -> Row -> (List Int) -> Option (List Row × Int × Unit)) (i6 : Int) (ob0 : Stp) (ob1 : Row) (ob2 : List Int) : Option (List Row × Int × Unit) :=
  let u1 := cond (eqI i6 (↑((0 : Nat) + (1 : Nat) + (1 : Nat) + (1 : Nat) + (1 : Nat) + (1 : Nat)) : Int)) (none) (cond (eqI i6 (↑((0 : Nat) + (1 : Nat) + (1 : Nat) + (1 : Nat) + (1 : Nat) + (1 : Nat) + (1 : Nat)) : Int)) (none) (must (eqI i6 (↑((0 : Nat) + (1 : Nat) + (1 : Nat) + (1 : Nat) + (1 : Nat) + (1 : Nat) + (1 : Nat) + (1 : Nat)) : Int)) (none)))
  let u2 := (↑((0 : Nat) + (1 : Nat) + (1 : Nat) + (1 : Nat) + (1 : Nat)) : Int)
  let u3 := (↑((0 : Nat) + (1 : Nat) + (1 : Nat) + (1 : Nat)) : Int)
  let u8 := (↑((0 : Nat) + (1 : Nat) + (1 : Nat)) : Int)
  let u4 := eqI i6 u8
  let u11 := (↑((0 : Nat) + (1 : Nat)) : Int)
  let u5 := eqI i6 u11
  let u6 := eqI i6 (↑(0 : Nat) : Int)
  let u9 := eqI i6 u3
  let u10 := eqI i6 u2
  let u7 := cond u9 (none) (cond u10 (none) u1)
  cond (hide (ltI i6 (5 : Int))) (cond u6 (must u6 (cond u6 (A_10 (hide (wr ((↑(0 : Nat) : Int) + (1 : Int)))) (ob0) (Row.mk (ob0.q0) (ob1.q1) (ob1.q2) (ob1.q3) (ob1.q4) (ob1.q5) (ob1.q6) (ob1.q7) ob1.w0 ob1.w1 ob1.w2) ob2) (cond u5 (none) (cond u4 (none) u7)))) (cond u5 (must u5 (cond u6 (none) (cond u5 (A_10 (hide (wr (u11 + (1 : Int)))) (ob0) (Row.mk (ob1.q0) (ob0.q1) (ob1.q2) (ob1.q3) (ob1.q4) (ob1.q5) (ob1.q6) (ob1.q7) ob1.w0 ob1.w1 ob1.w2) ob2) (cond u4 (none) u7)))) (cond u4 (must u4 (cond u6 (none) (cond u5 (none) (cond u4 (A_10 (hide (wr (u8 + (1 : Int)))) (ob0) (Row.mk (ob1.q0) (ob1.q1) (ob0.q2) (ob1.q3) (ob1.q4) (ob1.q5) (ob1.q6) (ob1.q7) ob1.w0 ob1.w1 ob1.w2) ob2) u7)))) (cond u9 (must u9 (cond u6 (none) (cond u5 (none) (cond u4 (none) (cond u9 (A_10 (hide (wr (u3 + (1 : Int)))) (ob0) (Row.mk (ob1.q0) (ob1.q1) (ob1.q2) (ob0.q3) (ob1.q4) (ob1.q5) (ob1.q6) (ob1.q7) ob1.w0 ob1.w1 ob1.w2) ob2) (cond u10 (none) u1)))))) (must u10 (must u10 (cond u6 (none) (cond u5 (none) (cond u4 (none) (cond u9 (none) (cond u10 (A_10 (hide (wr (u2 + (1 : Int)))) (ob0) (Row.mk (ob1.q0) (ob1.q1) (ob1.q2) (ob1.q3) (ob0.q4) (ob1.q5) (ob1.q6) (ob1.q7) ob1.w0 ob1.w1 ob1.w2) ob2) u1))))))))))) (zkf N N (0 : Int) (ob1) ob2)
def zkh (N n : Nat) (i6 : Int) (ob0 : Stp) (ob1 : Row) (ob2 : List Int) : Option (List Row × Int × Unit) :=
  zas (fun A x => zkg N (fun i6 ob0 ob1 ob2 => A (((), ((), ((), (i6, ())))), (ob0, (ob1, (ob2, ()))))) x.1.2.2.2.1 x.2.1 x.2.2.1 x.2.2.2.1) n (((), ((), ((), (i6, ())))), (ob0, (ob1, (ob2, ()))))
def p197 (N : Nat) (s0 : Stp) : Option (List Row × Int × Unit) :=
  let u1 := Fr.zero
  let u2 := zkh N N (0 : Int) (s0) (Row.mk u1 u1 u1 u1 u1 u1 u1 u1 (-1 : Int) (-1 : Int) (-1 : Int)) ([Stp.v0 s0, Stp.v1 s0, Stp.v2 s0])
  let u3 := hide (eqI s0.kind (1 : Int))
  let u4 := hide (eqI s0.kind (2 : Int))
  let u5 := hide (eqI s0.kind (3 : Int))
  let u6 := hide (eqI s0.kind (4 : Int))
  let u7 := hide (eqI s0.kind (7 : Int))
  let u8 := hide (eqI s0.kind (5 : Int))
  let u9 := some (([], (11 : Int), ()))
  let u10 := some (([], (0 : Int), ()))
  cond u3 (cond u3 u10 (cond u4 u2 (cond u5 (Option.bind (p218 N) fun rr7 => some (([Row.mk u1 u1 u1 u1 u1 (rr7.1) u1 u1 s0.v0 (-1 : Int) (-1 : Int)], (0 : Int), ()))) (cond u6 (Option.bind (p218 N) fun rr6 => some (([Row.mk u1 u1 u1 u1 u1 u1 (rr6.1) u1 s0.v0 (-1 : Int) s0.v2], (0 : Int), ()))) (cond u7 (Option.bind (p218 N) fun rr5 => some (([Row.mk u1 (rr5.1) u1 u1 u1 u1 u1 u1 s0.v0 (-1 : Int) (-1 : Int)], (0 : Int), ()))) (cond u8 (Option.bind (p218 N) fun rr4 => some (([Row.mk u1 u1 u1 u1 u1 u1 u1 (rr4.1) s0.v0 s0.v1 (-1 : Int), Row.mk u1 u1 u1 u1 u1 u1 u1 u1 s0.v2 (-1 : Int) (-1 : Int)], (0 : Int), ()))) u9)))))) (cond (hide (eqI s0.kind (6 : Int))) u10 (cond u4 u2 (cond u5 (Option.bind (p218 N) fun rr3 => some (([Row.mk u1 u1 u1 u1 u1 (rr3.1) u1 u1 s0.v0 (-1 : Int) (-1 : Int)], (0 : Int), ()))) (cond u6 (Option.bind (p218 N) fun rr2 => some (([Row.mk u1 u1 u1 u1 u1 u1 (rr2.1) u1 s0.v0 (-1 : Int) s0.v2], (0 : Int), ()))) (cond u7 (Option.bind (p218 N) fun rr1 => some (([Row.mk u1 (rr1.1) u1 u1 u1 u1 u1 u1 s0.v0 (-1 : Int) (-1 : Int)], (0 : Int), ()))) (cond u8 (Option.bind (p218 N) fun rr0 => some (([Row.mk u1 u1 u1 u1 u1 u1 u1 (rr0.1) s0.v0 s0.v1 (-1 : Int), Row.mk u1 u1 u1 u1 u1 u1 u1 u1 s0.v2 (-1 : Int) (-1 : Int)], (0 : Int), ()))) u9))))))
def g197 (N : Nat) : Sg := sgK [(K.st .step)] [(K.ro .row), K.int] fun x => p197 N x.1
def zt1 : List (Nat × Head) := [
    (10, ⟨⟨93, [(1, .u (.c (.ptr0 11000000 0))), (4, .u (.c (.ptr0 11000001 0))), (5, .u (.c (.ptr0 11000002 0))), (6, .u (.c (.int)))], [(11000000, ⟨false, 0, 112, .st .step⟩), (11000001, ⟨false, 0, 116, .st .row⟩), (11000002, ⟨false, 3, 110, .vec .int⟩)]⟩, .exit 1⟩),
    (14, ⟨⟨93, [(4, .u (.c (.ptr0 15000000 0))), (5, .u (.c (.ptr0 15000001 0))), (7, .u (.c (.int)))], [(15000000, ⟨false, 0, 116, .st .row⟩), (15000001, ⟨false, 3, 110, .vec .int⟩)]⟩, .exit 3⟩)]
def zt2 (N : Nat) : List (Nat × Sg) := [(218, g218 N)]
theorem zok (N : Nat) : za2 Try.prog pd.els (zt2 N) := ⟨zr7 N, trivial⟩
theorem zr8 (N : Nat) : SgOK Try.prog pd.els 197 (g197 N) :=
  zaP za3 (zar (zok N)) Try.func197 (zau (by kernel_rfl)) [(K.st .step)] [(K.ro .row), K.int] _ N zt1 4 fun x => by kernel_rfl
end
section
structure F5 where
  (k0 k1 k2 k3 k4 : Fr)
def F5.l (x : F5) : List Fr := [x.k0, x.k1, x.k2, x.k3, x.k4]
def F5.of? (l : List Fr) : Option F5 := match l with
  | [a, b, c, d, e] => some ⟨a, b, c, d, e⟩
  | _ => none
theorem F5.of_ok {l : List Fr} {x : F5} (h : F5.of? l = some x) : l = x.l := by
  unfold F5.of? at h
  split at h
  . cases h; rfl
  . cases h
def K.bl3 : K := ⟨TCs [.int, .ro .row, .ro .row] × Nat, fun x => .agg (zcq [.int, .ro .row, .ro .row] x.1 ++ [.len x.2]), fun u => match u with
  | .agg xs => match zdR [.int, .ro .row, .ro .row] (xs.take 3), xs.drop 3 with
    | some y, [.len n] => some (y, n)
    | _, _ => none
  | _ => none, fun u x h => by
  split at h
  . rename_i xs
    split at h
    . rename_i y n h1 h2
      cases h
      have h3 := zgW (l := [.int, .ro .row, .ro .row]) rfl h1
      rw [← h3, ← h2, List.take_append_drop]
    . cases h
  . cases h⟩
end
end Go.Proofs.Ytgimohchocjgcaa.V
