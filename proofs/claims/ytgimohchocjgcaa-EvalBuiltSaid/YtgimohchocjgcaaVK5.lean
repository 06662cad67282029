import Derived.Test.YtgimohchocjgcaaVFM
import Derived.Test.YtgimohchocjgcaaVME
set_option linter.unusedVariables false
set_option linter.unusedSimpArgs false
namespace Go.Proofs.Ytgimohchocjgcaa.V
section
def p193 (N : Nat) (a0 : Fr) : Option (Fr × Unit) :=
  Option.bind (p76 N (a0) (a0)) fun rr0 => Option.bind (p76 N (rr0.1) (rr0.1)) fun rr1 => Option.bind (p76 N (rr1.1) (a0)) fun rr2 => some ((rr2.1, ()))
def g193 (N : Nat) : Sg := sgK [K.fr] [K.fr] fun x => p193 N x.1
def zy4 : List (Nat × Head) := [
    ]
def zy5 (N : Nat) : List (Nat × Sg) := [(76, g76 N)]
theorem zqj (N : Nat) : zaL Try.prog pd.els (zy5 N) := ⟨zvb N, trivial⟩
theorem zwI (N : Nat) : SgOK Try.prog pd.els 193 (g193 N) :=
  zaB zaP (zak (zqj N)) Try.func193 (zan (by kernel_rfl)) [K.fr] [K.fr] _ N zy4 4 fun x => by kernel_rfl
def p195 (N : Nat) (at0 : Int) (w1 : List Int) : Option (Row × Unit) :=
  let u10 := (0 : Nat) + (1 : Nat) + (1 : Nat)
  let u1 := List.getD w1 u10 (0 : Int)
  let u2 := Fr.zero
  let u3 := List.getD w1 ((0 : Nat) + (1 : Nat)) (0 : Int)
  let u4 := List.getD w1 (0 : Nat) (0 : Int)
  let u5 := eqI at0 (↑((0 : Nat) + (1 : Nat) + (1 : Nat) + (1 : Nat) + (1 : Nat) + (1 : Nat) + (1 : Nat) + (1 : Nat)) : Int)
  let u6 := eqI at0 (↑((0 : Nat) + (1 : Nat) + (1 : Nat) + (1 : Nat) + (1 : Nat) + (1 : Nat) + (1 : Nat)) : Int)
  let u7 := eqI at0 (↑((0 : Nat) + (1 : Nat) + (1 : Nat) + (1 : Nat) + (1 : Nat) + (1 : Nat)) : Int)
  let u8 := eqI at0 (↑((0 : Nat) + (1 : Nat) + (1 : Nat) + (1 : Nat) + (1 : Nat)) : Int)
  let u9 := eqI at0 (↑((0 : Nat) + (1 : Nat) + (1 : Nat) + (1 : Nat)) : Int)
  let u11 := eqI at0 (↑((0 : Nat) + (1 : Nat)) : Int)
  let u12 := eqI at0 (↑(0 : Nat) : Int)
  must (leI (↑(3 : Nat) : Int) (↑w1.length : Int)) (must (leN ((0 : Nat) + (3 : Nat)) w1.length) (Option.bind (p75 N (1 : UInt64)) fun rr0 => cond u12 (must u12 (some ((Row.mk (rr0.1) u2 u2 u2 u2 u2 u2 u2 u4 u3 u1, ())))) (cond u11 (must u11 (some ((Row.mk u2 (rr0.1) u2 u2 u2 u2 u2 u2 u4 u3 u1, ())))) (cond (eqI at0 (↑u10 : Int)) (must (eqI at0 (↑u10 : Int)) (some ((Row.mk u2 u2 (rr0.1) u2 u2 u2 u2 u2 u4 u3 u1, ())))) (cond u9 (must u9 (some ((Row.mk u2 u2 u2 (rr0.1) u2 u2 u2 u2 u4 u3 u1, ())))) (cond u8 (must u8 (some ((Row.mk u2 u2 u2 u2 (rr0.1) u2 u2 u2 u4 u3 u1, ())))) (cond u7 (must u7 (some ((Row.mk u2 u2 u2 u2 u2 (rr0.1) u2 u2 u4 u3 u1, ())))) (cond u6 (must u6 (some ((Row.mk u2 u2 u2 u2 u2 u2 (rr0.1) u2 u4 u3 u1, ())))) (must u5 (must u5 (some ((Row.mk u2 u2 u2 u2 u2 u2 u2 (rr0.1) u4 u3 u1, ())))))))))))))
def g195 (N : Nat) : Sg := sgK [K.int, (K.ro .int)] [(K.st .row)] fun x => p195 N x.1 x.2.1
def zy6 : List (Nat × Head) := [
    ]
def zy7 (N : Nat) : List (Nat × Sg) := [(75, g75 N)]
theorem zqk (N : Nat) : zaL Try.prog pd.els (zy7 N) := ⟨zva N, trivial⟩
theorem zwJ (N : Nat) : SgOK Try.prog pd.els 195 (g195 N) :=
  zaB zaP (zak (zqk N)) Try.func195 (zan (by kernel_rfl)) [K.int, (K.ro .int)] [(K.st .row)] _ N zy6 4 fun x => by kernel_rfl
def zql (N : Nat) (A_4 : (List Fr) -> Int -> (List Fr) -> Fr -> Fr -> Option (Fr × Unit)) (t37 : List Fr) (t38 : Int) (ob0 : List Fr) (ob1 ob2 : Fr) : Option (Fr × Unit) :=
  cond (hide (ltI t38 (8 : Int))) (must (leI (0 : Int) t38 && (ltI t38 (↑(8 : Nat) : Int) && ltI t38 (↑t37.length : Int))) (must (leI (0 : Int) t38 && ltI t38 (↑(8 : Nat) : Int)) (Option.bind (p76 N ((List.getD ob0 t38.toNat (Fr.zero))) ((List.getD t37 t38.toNat (Fr.zero)))) fun rr0 => Option.bind (p80 N (ob2) (rr0.1)) fun rr1 => A_4 t37 (hide (wr (t38 + (1 : Int)))) ob0 (ob1) (rr1.1)))) (some ((ob2, ())))
def zqm (N n : Nat) (t37 : List Fr) (t38 : Int) (ob0 : List Fr) (ob1 ob2 : Fr) : Option (Fr × Unit) :=
  zam (fun A x => zql N (fun t37 t38 ob0 ob1 ob2 => A (((), ((), ((), (t37, (t38, ()))))), (ob0, (ob1, (ob2, ()))))) x.1.2.2.2.1 x.1.2.2.2.2.1 x.2.1 x.2.2.1 x.2.2.2.1) n (((), ((), ((), (t37, (t38, ()))))), (ob0, (ob1, (ob2, ()))))
def p106 (N : Nat) (q0 : List Fr) (a1 b2 c3 next4 : Fr) : Option (Fr × Unit) :=
  must (Nat.beq q0.length (8 : Nat)) (Option.bind (p76 N (a1) (b2)) fun rr0 => Option.bind (p75 N (1 : UInt64)) fun rr1 => Option.bind (p76 N (a1) (a1)) fun rr2 => Option.bind (p82 N (rr2.1) (a1)) fun rr3 => Option.bind (p193 N (a1)) fun rr4 => Option.bind (p82 N (rr4.1) (c3)) fun rr5 => Option.bind (p80 N (a1) (b2)) fun rr6 => Option.bind (p82 N (rr6.1) (next4)) fun rr7 => zqm N N ([rr0.1, a1, b2, c3, rr1.1, rr3.1, rr5.1, rr7.1]) (0 : Int) q0 (Fr.zero) (Fr.zero))
def g106 (N : Nat) : Sg := sgK [(K.vec .fr), K.fr, K.fr, K.fr, K.fr] [K.fr] fun x => p106 N x.1 x.2.1 x.2.2.1 x.2.2.2.1 x.2.2.2.2.1
def zy8 : List (Nat × Head) := [
    (4, ⟨⟨51, [(5, .u (.c (.ptr0 5000000 0))), (10, .u (.c (.ptr0 5000001 0))), (12, .u (.c (.ptr0 5000002 0))), (37, .u (.vec .fr)), (38, .u (.c (.int)))], [(5000000, ⟨false, 8, 106, .vec .fr⟩), (5000001, ⟨false, 4, 53, .fr⟩), (5000002, ⟨false, 4, 53, .fr⟩)]⟩, .exit 0⟩)]
def zy9 (N : Nat) : List (Nat × Sg) := [(76, g76 N), (75, g75 N), (82, g82 N), (193, g193 N), (80, g80 N)]
theorem zqn (N : Nat) : zaL Try.prog pd.els (zy9 N) := ⟨zvb N, ⟨zva N, ⟨zvc N, ⟨zwI N, ⟨zvf N, trivial⟩⟩⟩⟩⟩
theorem zwK (N : Nat) : SgOK Try.prog pd.els 106 (g106 N) :=
  zaB zaP (zak (zqn N)) Try.func106 (zan (by kernel_rfl)) [(K.vec .fr), K.fr, K.fr, K.fr, K.fr] [K.fr] _ N zy8 4 fun x => by kernel_rfl
def p108 (N : Nat) (s0 : Stp) : Option (List Row × Int × Unit) :=
  let u2 := Fr.zero
  let u1 := some (([Row.mk (s0.q0) (s0.q1) (s0.q2) (s0.q3) (s0.q4) u2 u2 u2 (mxI s0.v0 (-1 : Int)) (mxI s0.v1 (-1 : Int)) (mxI s0.v2 (-1 : Int))], (0 : Int), ()))
  let u3 := [Stp.v0 s0, (-1 : Int), (-1 : Int)]
  let u4 := p195 N (6 : Int) ([Stp.v0 s0, (-1 : Int), Stp.v2 s0])
  let u5 := p195 N (7 : Int) ([Stp.v0 s0, Stp.v1 s0, (-1 : Int)])
  let u6 := hide (eqI s0.kind (1 : Int))
  let u7 := hide (eqI s0.kind (2 : Int))
  let u8 := hide (eqI s0.kind (3 : Int))
  let u9 := hide (eqI s0.kind (4 : Int))
  let u10 := hide (eqI s0.kind (5 : Int))
  let u11 := hide (eqI s0.kind (7 : Int))
  let u12 := some (([], (11 : Int), ()))
  let u13 := some (([], (0 : Int), ()))
  cond u6 (cond u6 u13 (cond u7 u1 (cond u8 (Option.bind (p195 N (5 : Int) u3) fun rr7 => some (([rr7.1], (0 : Int), ()))) (cond u9 (Option.bind u4 fun rr6 => some (([rr6.1], (0 : Int), ()))) (cond u10 (Option.bind u5 fun rr5 => some (([rr5.1, Row.mk u2 u2 u2 u2 u2 u2 u2 u2 s0.v2 (-1 : Int) (-1 : Int)], (0 : Int), ()))) (cond u11 (Option.bind (p195 N (1 : Int) u3) fun rr4 => some (([rr4.1], (0 : Int), ()))) u12)))))) (cond (hide (eqI s0.kind (6 : Int))) u13 (cond u7 u1 (cond u8 (Option.bind (p195 N (5 : Int) u3) fun rr3 => some (([rr3.1], (0 : Int), ()))) (cond u9 (Option.bind u4 fun rr2 => some (([rr2.1], (0 : Int), ()))) (cond u10 (Option.bind u5 fun rr1 => some (([rr1.1, Row.mk u2 u2 u2 u2 u2 u2 u2 u2 s0.v2 (-1 : Int) (-1 : Int)], (0 : Int), ()))) (cond u11 (Option.bind (p195 N (1 : Int) u3) fun rr0 => some (([rr0.1], (0 : Int), ()))) u12))))))
def g108 (N : Nat) : Sg := sgK [(K.st .step)] [(K.ro .row), K.int] fun x => p108 N x.1
def zza : List (Nat × Head) := [
    ]
def zzb (N : Nat) : List (Nat × Sg) := [(195, g195 N)]
theorem zqo (N : Nat) : zaL Try.prog pd.els (zzb N) := ⟨zwJ N, trivial⟩
theorem zwL (N : Nat) : SgOK Try.prog pd.els 108 (g108 N) :=
  zaB zaP (zak (zqo N)) Try.func108 (zan (by kernel_rfl)) [(K.st .step)] [(K.ro .row), K.int] _ N zza 4 fun x => by kernel_rfl
def p190 (N : Nat) (a0 b1 : Fr) : Option (Fr × Unit) :=
  Option.bind (p94 N (a0) (b1)) fun rr0 => some ((rr0.1, ()))
def g190 (N : Nat) : Sg := sgK [K.fr, K.fr] [K.fr] fun x => p190 N x.1 x.2.1
def zzc : List (Nat × Head) := [
    ]
def zzd (N : Nat) : List (Nat × Sg) := [(94, g94 N)]
theorem zqp (N : Nat) : zaL Try.prog pd.els (zzd N) := ⟨zna N, trivial⟩
theorem zwM (N : Nat) : SgOK Try.prog pd.els 190 (g190 N) :=
  zaB zaP (zak (zqp N)) Try.func190 (zan (by kernel_rfl)) [K.fr, K.fr] [K.fr] _ N zzc 4 fun x => by kernel_rfl
def p194 (N : Nat) (a0 b1 : Fr) : Option (Fr × Unit) :=
  Option.bind (p81 N (a0) (b1)) fun rr0 => some ((rr0.1, ()))
def g194 (N : Nat) : Sg := sgK [K.fr, K.fr] [K.fr] fun x => p194 N x.1 x.2.1
def zze : List (Nat × Head) := [
    ]
def zzf (N : Nat) : List (Nat × Sg) := [(81, g81 N)]
theorem zqq (N : Nat) : zaL Try.prog pd.els (zzf N) := ⟨znb N, trivial⟩
theorem zwN (N : Nat) : SgOK Try.prog pd.els 194 (g194 N) :=
  zaB zaP (zak (zqq N)) Try.func194 (zan (by kernel_rfl)) [K.fr, K.fr] [K.fr] _ N zze 4 fun x => by kernel_rfl
def zqr (N : Nat) (A_5 : Int -> (List Fr) -> Fr -> (List Fr) -> Fr -> Option (Fr × Unit)) (i14 : Int) (ob0 : List Fr) (ob1 : Fr) (ob2 : List Fr) (ob3 : Fr) : Option (Fr × Unit) :=
  cond (hide (ltI i14 (8 : Int))) (must (leI (0 : Int) i14 && ltI i14 (↑(8 : Nat) : Int)) (must (leI (0 : Int) i14 && ltI i14 (↑(8 : Nat) : Int)) (Option.bind (p190 N ((List.getD ob0 i14.toNat (Fr.zero))) ((List.getD ob2 i14.toNat (Fr.zero)))) fun rr0 => Option.bind (p194 N (ob3) (rr0.1)) fun rr1 => A_5 (hide (wr (i14 + (1 : Int)))) ob0 (ob1) ob2 (rr1.1)))) (some ((ob3, ())))
def zqs (N n : Nat) (i14 : Int) (ob0 : List Fr) (ob1 : Fr) (ob2 : List Fr) (ob3 : Fr) : Option (Fr × Unit) :=
  zam (fun A x => zqr N (fun i14 ob0 ob1 ob2 ob3 => A (((), ((), ((), ((), (i14, ()))))), (ob0, (ob1, (ob2, (ob3, ())))))) x.1.2.2.2.2.1 x.2.1 x.2.2.1 x.2.2.2.1 x.2.2.2.2.1) n (((), ((), ((), ((), (i14, ()))))), (ob0, (ob1, (ob2, (ob3, ())))))
def p107 (N : Nat) (q0 : List Fr) (a1 b2 c3 next4 : Fr) : Option (Fr × Unit) :=
  must (Nat.beq q0.length (8 : Nat)) (Option.bind (p190 N (a1) (a1)) fun rr0 => Option.bind (p190 N (a1) (b2)) fun rr1 => Option.bind (p173 N (1 : UInt64)) fun rr2 => Option.bind (p83 N (rr0.1) (a1)) fun rr3 => Option.bind (p190 N (rr0.1) (rr0.1)) fun rr4 => Option.bind (p190 N (rr4.1) (a1)) fun rr5 => Option.bind (p83 N (rr5.1) (c3)) fun rr6 => Option.bind (p194 N (a1) (b2)) fun rr7 => Option.bind (p83 N (rr7.1) (next4)) fun rr8 => zqs N N (0 : Int) q0 (Fr.zero) ([rr1.1, a1, b2, c3, rr2.1, rr3.1, rr6.1, rr8.1]) (Fr.zero))
def g107 (N : Nat) : Sg := sgK [(K.vec .fr), K.fr, K.fr, K.fr, K.fr] [K.fr] fun x => p107 N x.1 x.2.1 x.2.2.1 x.2.2.2.1 x.2.2.2.2.1
def zzg : List (Nat × Head) := [
    (5, ⟨⟨55, [(5, .u (.c (.ptr0 6000000 0))), (10, .u (.c (.ptr0 6000001 0))), (12, .u (.c (.ptr0 6000002 0))), (13, .u (.c (.ptr0 6000003 0))), (14, .u (.c (.int)))], [(6000000, ⟨false, 8, 106, .vec .fr⟩), (6000001, ⟨false, 4, 53, .fr⟩), (6000002, ⟨false, 8, 106, .vec .fr⟩), (6000003, ⟨false, 4, 53, .fr⟩)]⟩, .exit 0⟩)]
def zzh (N : Nat) : List (Nat × Sg) := [(190, g190 N), (173, g173 N), (83, g83 N), (194, g194 N)]
theorem zqt (N : Nat) : zaL Try.prog pd.els (zzh N) := ⟨zwM N, ⟨zjh N, ⟨zqi N, ⟨zwN N, trivial⟩⟩⟩⟩
theorem zwO (N : Nat) : SgOK Try.prog pd.els 107 (g107 N) :=
  zaB zaP (zak (zqt N)) Try.func107 (zan (by kernel_rfl)) [(K.vec .fr), K.fr, K.fr, K.fr, K.fr] [K.fr] _ N zzg 4 fun x => by kernel_rfl
end
section
def zrow : Row := Row.mk Fr.zero Fr.zero Fr.zero Fr.zero Fr.zero Fr.zero Fr.zero Fr.zero (0 : Int) (0 : Int) (0 : Int)
def zaU (x y : Row) : Bool := Fr.a0 x.q0 == Fr.a0 y.q0 && (Fr.a1 x.q0 == Fr.a1 y.q0 && (Fr.a2 x.q0 == Fr.a2 y.q0 && (Fr.a3 x.q0 == Fr.a3 y.q0 && true))) && (Fr.a0 x.q1 == Fr.a0 y.q1 && (Fr.a1 x.q1 == Fr.a1 y.q1 && (Fr.a2 x.q1 == Fr.a2 y.q1 && (Fr.a3 x.q1 == Fr.a3 y.q1 && true))) && (Fr.a0 x.q2 == Fr.a0 y.q2 && (Fr.a1 x.q2 == Fr.a1 y.q2 && (Fr.a2 x.q2 == Fr.a2 y.q2 && (Fr.a3 x.q2 == Fr.a3 y.q2 && true))) && (Fr.a0 x.q3 == Fr.a0 y.q3 && (Fr.a1 x.q3 == Fr.a1 y.q3 && (Fr.a2 x.q3 == Fr.a2 y.q3 && (Fr.a3 x.q3 == Fr.a3 y.q3 && true))) && (Fr.a0 x.q4 == Fr.a0 y.q4 && (Fr.a1 x.q4 == Fr.a1 y.q4 && (Fr.a2 x.q4 == Fr.a2 y.q4 && (Fr.a3 x.q4 == Fr.a3 y.q4 && true))) && (Fr.a0 x.q5 == Fr.a0 y.q5 && (Fr.a1 x.q5 == Fr.a1 y.q5 && (Fr.a2 x.q5 == Fr.a2 y.q5 && (Fr.a3 x.q5 == Fr.a3 y.q5 && true))) && (Fr.a0 x.q6 == Fr.a0 y.q6 && (Fr.a1 x.q6 == Fr.a1 y.q6 && (Fr.a2 x.q6 == Fr.a2 y.q6 && (Fr.a3 x.q6 == Fr.a3 y.q6 && true))) && (Fr.a0 x.q7 == Fr.a0 y.q7 && (Fr.a1 x.q7 == Fr.a1 y.q7 && (Fr.a2 x.q7 == Fr.a2 y.q7 && (Fr.a3 x.q7 == Fr.a3 y.q7 && true))) && true))))))) && (eqI x.w0 y.w0 && (eqI x.w1 y.w1 && (eqI x.w2 y.w2 && true)) && true)
end
section
def zqu (N : Nat) (A_2 : (List Row) -> Int -> Int -> Option (Bool × Unit)) (A_5 : (List Row) -> Int -> Int -> (List Fr) -> Int -> Option (Bool × Unit)) (t8 : List Row) (t9 t10 : Int) (t15 : List Fr) (t16 : Int) : Option (Bool × Unit) :=
  cond (hide (ltI t16 (8 : Int))) (must (leI (0 : Int) t16 && (ltI t16 (↑(8 : Nat) : Int) && ltI t16 (↑t15.length : Int))) (Option.bind (p79 N ((List.getD t15 t16.toNat (Fr.zero)))) fun r0 => cond (hide !r0.1) (some ((false, ()))) (A_5 t8 t9 t10 t15 (hide (wr (t16 + (1 : Int))))))) (A_2 t8 t9 (hide (wr (t10 + (1 : Int)))))
def zqv (N : Nat) (A_2 : (List Row) -> Int -> Int -> Option (Bool × Unit)) (n : Nat) (t8 : List Row) (t9 t10 : Int) (t15 : List Fr) (t16 : Int) : Option (Bool × Unit) :=
  zam (fun A x => zqu N A_2 (fun t8 t9 t10 t15 t16 => A ((t8, (t9, (t10, (t15, (t16, ()))))), ())) x.1.1 x.1.2.1 x.1.2.2.1 x.1.2.2.2.1 x.1.2.2.2.2.1) n ((t8, (t9, (t10, (t15, (t16, ()))))), ())
def zqw (N : Nat) (A_2 : (List Row) -> Int -> Int -> Option (Bool × Unit)) (t8 : List Row) (t9 t10 : Int) : Option (Bool × Unit) :=
  let u1 := List.getD t8 t10.toNat zrow
  let u2 := Row.q0 u1
  let u3 := Row.q1 u1
  let u4 := Row.q2 u1
  let u5 := Row.q3 u1
  let u6 := Row.q4 u1
  let u7 := Row.q5 u1
  let u8 := Row.q6 u1
  let u9 := Row.q7 u1
  cond (hide (ltI t10 t9)) (must (leI (0 : Int) t10 && ltI t10 (↑t8.length : Int)) (zqv N A_2 N t8 t9 t10 ([Fr.mk (Fr.a0 u2) (Fr.a1 u2) (Fr.a2 u2) (Fr.a3 u2), Fr.mk (Fr.a0 u3) (Fr.a1 u3) (Fr.a2 u3) (Fr.a3 u3), Fr.mk (Fr.a0 u4) (Fr.a1 u4) (Fr.a2 u4) (Fr.a3 u4), Fr.mk (Fr.a0 u5) (Fr.a1 u5) (Fr.a2 u5) (Fr.a3 u5), Fr.mk (Fr.a0 u6) (Fr.a1 u6) (Fr.a2 u6) (Fr.a3 u6), Fr.mk (Fr.a0 u7) (Fr.a1 u7) (Fr.a2 u7) (Fr.a3 u7), Fr.mk (Fr.a0 u8) (Fr.a1 u8) (Fr.a2 u8) (Fr.a3 u8), Fr.mk (Fr.a0 u9) (Fr.a1 u9) (Fr.a2 u9) (Fr.a3 u9)]) (0 : Int))) (some ((true, ())))
def zqx (N n : Nat) (t8 : List Row) (t9 t10 : Int) : Option (Bool × Unit) :=
  zam (fun A x => zqw N (fun t8 t9 t10 => A ((t8, (t9, (t10, ()))), ())) x.1.1 x.1.2.1 x.1.2.2.1) n ((t8, (t9, (t10, ()))), ())
def p200 (N : Nat) (c0 v1 : Int) (v2 : List Row) (v3 : List Pr) : Option (Bool × Unit) :=
  zqx N N v2 ((↑v2.length : Int)) (0 : Int)
def g200 (N : Nat) : Sg := sgK [(K.agg [.int, .int, .ro .row, .ro .pair] rfl)] [K.bool] fun x => p200 N x.1.1 x.1.2.1 x.1.2.2.1 x.1.2.2.2.1
def zzi : List (Nat × Head) := [
    (2, ⟨⟨24, [(8, .u (.c (.ro .row))), (9, .u (.c (.int))), (10, .u (.c (.int)))], []⟩, .exit 0⟩),
    (5, ⟨⟨24, [(8, .u (.c (.ro .row))), (9, .u (.c (.int))), (10, .u (.c (.int))), (15, .u (.vec .fr)), (16, .u (.c (.int)))], []⟩, .exit 2⟩)]
def zzj (N : Nat) : List (Nat × Sg) := [(79, g79 N)]
theorem zqy (N : Nat) : zaL Try.prog pd.els (zzj N) := ⟨zyO N, trivial⟩
theorem zwP (N : Nat) : SgOK Try.prog pd.els 200 (g200 N) :=
  zaB zaP (zak (zqy N)) Try.func200 (zan (by kernel_rfl)) [(K.agg [.int, .int, .ro .row, .ro .pair] rfl)] [K.bool] _ N zzi 4 fun x => by kernel_rfl
def zlN (N : Nat) (A_12 : (List Pr) -> Int -> Int -> Int -> Int -> (List Row) -> (List Pr) -> Option (Bool × Unit)) (t28 : List Pr) (t29 t30 ob0_0 ob0_1 : Int) (ob0_2 : List Row) (ob0_3 : List Pr) : Option (Bool × Unit) :=
  cond (hide (ltI t30 t29)) (must (leI (0 : Int) t30 && ltI t30 (↑t28.length : Int)) (cond (hide (ltI (mnI (Pr.x (List.getD t28 t30.toNat (Pr.mk (0 : Int) (0 : Int)))) (Pr.y (List.getD t28 t30.toNat (Pr.mk (0 : Int) (0 : Int))))) (0 : Int))) (some ((false, ()))) (cond (hide (leI ob0_1 (mxI (Pr.x (List.getD t28 t30.toNat (Pr.mk (0 : Int) (0 : Int)))) (Pr.y (List.getD t28 t30.toNat (Pr.mk (0 : Int) (0 : Int))))))) (some ((false, ()))) (A_12 t28 t29 (hide (wr (t30 + (1 : Int)))) ob0_0 ob0_1 ob0_2 ob0_3)))) (some ((true, ())))
def zlO (N n : Nat) (t28 : List Pr) (t29 t30 ob0_0 ob0_1 : Int) (ob0_2 : List Row) (ob0_3 : List Pr) : Option (Bool × Unit) :=
  zam (fun A x => zlN N (fun t28 t29 t30 ob0_0 ob0_1 ob0_2 ob0_3 => A (((), (t28, (t29, (t30, ())))), ((ob0_0, (ob0_1, (ob0_2, (ob0_3, ())))), ()))) x.1.2.1 x.1.2.2.1 x.1.2.2.2.1 x.2.1.1 x.2.1.2.1 x.2.1.2.2.1 x.2.1.2.2.2.1) n (((), (t28, (t29, (t30, ())))), ((ob0_0, (ob0_1, (ob0_2, (ob0_3, ())))), ()))
def zqz (N : Nat) (A_2 : (List Row) -> Int -> Int -> Int -> Int -> (List Row) -> (List Pr) -> Option (Bool × Unit)) (A_5 : (List Row) -> Int -> Int -> (List Int) -> Int -> Int -> Int -> (List Row) -> (List Pr) -> Option (Bool × Unit)) (t10 : List Row) (t11 t12 : Int) (t17 : List Int) (t18 ob0_0 ob0_1 : Int) (ob0_2 : List Row) (ob0_3 : List Pr) : Option (Bool × Unit) :=
  cond (hide (ltI t18 (3 : Int))) (must (leI (0 : Int) t18 && (ltI t18 (↑(3 : Nat) : Int) && ltI t18 (↑t17.length : Int))) (cond (hide (leI ob0_1 (List.getD t17 t18.toNat (0 : Int)))) (some ((false, ()))) (A_5 t10 t11 t12 t17 (hide (wr (t18 + (1 : Int)))) ob0_0 ob0_1 ob0_2 ob0_3))) (A_2 t10 t11 (hide (wr (t12 + (1 : Int)))) ob0_0 ob0_1 ob0_2 ob0_3)
def zqA (N : Nat) (A_2 : (List Row) -> Int -> Int -> Int -> Int -> (List Row) -> (List Pr) -> Option (Bool × Unit)) (n : Nat) (t10 : List Row) (t11 t12 : Int) (t17 : List Int) (t18 ob0_0 ob0_1 : Int) (ob0_2 : List Row) (ob0_3 : List Pr) : Option (Bool × Unit) :=
  zam (fun A x => zqz N A_2 (fun t10 t11 t12 t17 t18 ob0_0 ob0_1 ob0_2 ob0_3 => A (((), (t10, (t11, (t12, (t17, (t18, ())))))), ((ob0_0, (ob0_1, (ob0_2, (ob0_3, ())))), ()))) x.1.2.1 x.1.2.2.1 x.1.2.2.2.1 x.1.2.2.2.2.1 x.1.2.2.2.2.2.1 x.2.1.1 x.2.1.2.1 x.2.1.2.2.1 x.2.1.2.2.2.1) n (((), (t10, (t11, (t12, (t17, (t18, ())))))), ((ob0_0, (ob0_1, (ob0_2, (ob0_3, ())))), ()))
def zqB (N : Nat) (A_2 : (List Row) -> Int -> Int -> Int -> Int -> (List Row) -> (List Pr) -> Option (Bool × Unit)) (t10 : List Row) (t11 t12 ob0_0 ob0_1 : Int) (ob0_2 : List Row) (ob0_3 : List Pr) : Option (Bool × Unit) :=
  cond (hide (ltI t12 t11)) (must (leI (0 : Int) t12 && ltI t12 (↑t10.length : Int)) (zqA N A_2 N t10 t11 t12 ([Row.w0 (List.getD t10 t12.toNat zrow), Row.w1 (List.getD t10 t12.toNat zrow), Row.w2 (List.getD t10 t12.toNat zrow)]) (0 : Int) ob0_0 ob0_1 ob0_2 ob0_3)) (zlO N N ob0_3 ((↑ob0_3.length : Int)) (0 : Int) ob0_0 ob0_1 ob0_2 ob0_3)
def zqC (N n : Nat) (t10 : List Row) (t11 t12 ob0_0 ob0_1 : Int) (ob0_2 : List Row) (ob0_3 : List Pr) : Option (Bool × Unit) :=
  zam (fun A x => zqB N (fun t10 t11 t12 ob0_0 ob0_1 ob0_2 ob0_3 => A (((), (t10, (t11, (t12, ())))), ((ob0_0, (ob0_1, (ob0_2, (ob0_3, ())))), ()))) x.1.2.1 x.1.2.2.1 x.1.2.2.2.1 x.2.1.1 x.2.1.2.1 x.2.1.2.2.1 x.2.1.2.2.2.1) n (((), (t10, (t11, (t12, ())))), ((ob0_0, (ob0_1, (ob0_2, (ob0_3, ())))), ()))
def p201 (N : Nat) (c0 v1 : Int) (v2 : List Row) (v3 : List Pr) : Option (Bool × Unit) :=
  zqC N N v2 ((↑v2.length : Int)) (0 : Int) c0 v1 v2 v3
def g201 (N : Nat) : Sg := sgK [(K.agg [.int, .int, .ro .row, .ro .pair] rfl)] [K.bool] fun x => p201 N x.1.1 x.1.2.1 x.1.2.2.1 x.1.2.2.2.1
def zzk : List (Nat × Head) := [
    (2, ⟨⟨51, [(1, .u (.c (.ptr0 3000000 0))), (10, .u (.c (.ro .row))), (11, .u (.c (.int))), (12, .u (.c (.int)))], [(3000000, ⟨false, 0, 80, .lit [.int, .int, .ro .row, .ro .pair]⟩)]⟩, .exit 0⟩),
    (12, ⟨⟨51, [(1, .u (.c (.ptr0 13000000 0))), (28, .u (.c (.ro .pair))), (29, .u (.c (.int))), (30, .u (.c (.int)))], [(13000000, ⟨false, 0, 80, .lit [.int, .int, .ro .row, .ro .pair]⟩)]⟩, .exit 4⟩),
    (5, ⟨⟨51, [(1, .u (.c (.ptr0 6000000 0))), (10, .u (.c (.ro .row))), (11, .u (.c (.int))), (12, .u (.c (.int))), (17, .u (.vec .int)), (18, .u (.c (.int)))], [(6000000, ⟨false, 0, 80, .lit [.int, .int, .ro .row, .ro .pair]⟩)]⟩, .exit 2⟩)]
def zzl (N : Nat) : List (Nat × Sg) := []
theorem zqD (N : Nat) : zaL Try.prog pd.els (zzl N) := trivial
theorem zwQ (N : Nat) : SgOK Try.prog pd.els 201 (g201 N) :=
  zaB zaP (zak (zqD N)) Try.func201 (zan (by kernel_rfl)) [(K.agg [.int, .int, .ro .row, .ro .pair] rfl)] [K.bool] _ N zzk 4 fun x => by kernel_rfl
def p220 (N : Nat) (r0 : Row) : Option (Bool × Unit) :=
  Option.bind (p108 N (Stp.mk (7 : Int) r0.w0 (0 : Int) (0 : Int) (Fr.zero) (Fr.zero) (Fr.zero) (Fr.zero) (Fr.zero))) fun rr0 => cond (hide (leI (0 : Int) r0.w0)) (must (ltI (0 : Int) (↑rr0.1.length : Int)) (some ((hide (zaU r0 (List.getD rr0.1 (0 : Nat) zrow)), ())))) (some ((false, ())))
def g220 (N : Nat) : Sg := sgK [(K.st .row)] [K.bool] fun x => p220 N x.1
def zzm : List (Nat × Head) := [
    ]
def zzn (N : Nat) : List (Nat × Sg) := [(108, g108 N)]
theorem zqE (N : Nat) : zaL Try.prog pd.els (zzn N) := ⟨zwL N, trivial⟩
theorem zwR (N : Nat) : SgOK Try.prog pd.els 220 (g220 N) :=
  zaB zaP (zak (zqE N)) Try.func220 (zan (by kernel_rfl)) [(K.st .row)] [K.bool] _ N zzm 4 fun x => by kernel_rfl
def zqF (N : Nat) (A_2 : (List Row) -> Int -> Int -> Int -> Int -> (List Row) -> (List Pr) -> Option (Bool × Unit)) (t6 : List Row) (t7 t8 ob0_0 ob0_1 : Int) (ob0_2 : List Row) (ob0_3 : List Pr) : Option (Bool × Unit) :=
  let u1 := List.getD t6 t8.toNat zrow
  let u2 := cond (hide (ltI (mnI (mnI (Row.w0 u1) (Row.w1 u1)) (Row.w2 u1)) (-1 : Int))) (some ((false, ()))) (A_2 t6 t7 (hide (wr (t8 + (1 : Int)))) ob0_0 ob0_1 ob0_2 ob0_3)
  let u3 := Row.q0 u1
  let u4 := Row.q1 u1
  let u5 := Row.q2 u1
  let u6 := Row.q3 u1
  let u7 := Row.q4 u1
  let u8 := Row.q5 u1
  let u9 := Row.q6 u1
  let u10 := Row.q7 u1
  cond (hide (ltI t8 t7)) (must (leI (0 : Int) t8 && ltI t8 (↑t6.length : Int)) (cond (hide (ltI t8 ob0_0)) (Option.bind (p220 N (Row.mk (Fr.mk (Fr.a0 u3) (Fr.a1 u3) (Fr.a2 u3) (Fr.a3 u3)) (Fr.mk (Fr.a0 u4) (Fr.a1 u4) (Fr.a2 u4) (Fr.a3 u4)) (Fr.mk (Fr.a0 u5) (Fr.a1 u5) (Fr.a2 u5) (Fr.a3 u5)) (Fr.mk (Fr.a0 u6) (Fr.a1 u6) (Fr.a2 u6) (Fr.a3 u6)) (Fr.mk (Fr.a0 u7) (Fr.a1 u7) (Fr.a2 u7) (Fr.a3 u7)) (Fr.mk (Fr.a0 u8) (Fr.a1 u8) (Fr.a2 u8) (Fr.a3 u8)) (Fr.mk (Fr.a0 u9) (Fr.a1 u9) (Fr.a2 u9) (Fr.a3 u9)) (Fr.mk (Fr.a0 u10) (Fr.a1 u10) (Fr.a2 u10) (Fr.a3 u10)) (Row.w0 u1) (Row.w1 u1) (Row.w2 u1))) fun r0 => cond (hide !r0.1) (some ((false, ()))) u2) u2)) (some ((true, ())))
def zqG (N n : Nat) (t6 : List Row) (t7 t8 ob0_0 ob0_1 : Int) (ob0_2 : List Row) (ob0_3 : List Pr) : Option (Bool × Unit) :=
  zam (fun A x => zqF N (fun t6 t7 t8 ob0_0 ob0_1 ob0_2 ob0_3 => A (((), (t6, (t7, (t8, ())))), ((ob0_0, (ob0_1, (ob0_2, (ob0_3, ())))), ()))) x.1.2.1 x.1.2.2.1 x.1.2.2.2.1 x.2.1.1 x.2.1.2.1 x.2.1.2.2.1 x.2.1.2.2.2.1) n (((), (t6, (t7, (t8, ())))), ((ob0_0, (ob0_1, (ob0_2, (ob0_3, ())))), ()))
def p202 (N : Nat) (c0 v1 : Int) (v2 : List Row) (v3 : List Pr) : Option (Bool × Unit) :=
  zqG N N v2 ((↑v2.length : Int)) (0 : Int) c0 v1 v2 v3
def g202 (N : Nat) : Sg := sgK [(K.agg [.int, .int, .ro .row, .ro .pair] rfl)] [K.bool] fun x => p202 N x.1.1 x.1.2.1 x.1.2.2.1 x.1.2.2.2.1
def zzo : List (Nat × Head) := [
    (2, ⟨⟨36, [(1, .u (.c (.ptr0 3000000 0))), (6, .u (.c (.ro .row))), (7, .u (.c (.int))), (8, .u (.c (.int)))], [(3000000, ⟨false, 0, 80, .lit [.int, .int, .ro .row, .ro .pair]⟩)]⟩, .exit 0⟩)]
def zzp (N : Nat) : List (Nat × Sg) := [(220, g220 N)]
theorem zqH (N : Nat) : zaL Try.prog pd.els (zzp N) := ⟨zwR N, trivial⟩
theorem zwS (N : Nat) : SgOK Try.prog pd.els 202 (g202 N) :=
  zaB zaP (zak (zqH N)) Try.func202 (zan (by kernel_rfl)) [(K.agg [.int, .int, .ro .row, .ro .pair] rfl)] [K.bool] _ N zzo 4 fun x => by kernel_rfl
def p119 (N : Nat) (c0 v1 : Int) (v2 : List Row) (v3 : List Pr) : Option (Int × Unit) :=
  let u1 := some (((10 : Int), ()))
  let u2 := some (((1 : Int), ()))
  let u3 := some (((4 : Int), ()))
  let u4 := some (((3 : Int), ()))
  let u5 := some (((0 : Int), ()))
  let u6 := p200 N c0 v1 v2 v3
  let u7 := p201 N c0 v1 v2 v3
  let u8 := p202 N c0 v1 v2 v3
  let u9 := hide (ltI c0 (0 : Int))
  let u10 := hide (ltI v1 (0 : Int))
  let u11 := hide (ltI (↑v2.length : Int) c0)
  let u12 := some (((8 : Int), ()))
  let u13 := hide (ltI (64 : Int) (↑v2.length : Int))
  let u14 := hide (ltI (200 : Int) v1)
  cond (hide (ltI (8 : Int) c0)) (cond (hide (ltI (8 : Int) c0)) u12 (cond u9 (cond u9 u2 (Option.bind u6 fun r33 => cond (hide !r33.1) u3 (Option.bind u7 fun r34 => cond (hide !r34.1) u1 (Option.bind u8 fun r35 => cond (hide !r35.1) u4 u5)))) (cond u10 (cond u10 u2 (Option.bind u6 fun r30 => cond (hide !r30.1) u3 (Option.bind u7 fun r31 => cond (hide !r31.1) u1 (Option.bind u8 fun r32 => cond (hide !r32.1) u4 u5)))) (cond u11 u2 (Option.bind u6 fun r27 => cond (hide !r27.1) u3 (Option.bind u7 fun r28 => cond (hide !r28.1) u1 (Option.bind u8 fun r29 => cond (hide !r29.1) u4 u5))))))) (cond u14 (cond u14 u12 (cond u9 (cond u9 u2 (Option.bind u6 fun r24 => cond (hide !r24.1) u3 (Option.bind u7 fun r25 => cond (hide !r25.1) u1 (Option.bind u8 fun r26 => cond (hide !r26.1) u4 u5)))) (cond u10 (cond u10 u2 (Option.bind u6 fun r21 => cond (hide !r21.1) u3 (Option.bind u7 fun r22 => cond (hide !r22.1) u1 (Option.bind u8 fun r23 => cond (hide !r23.1) u4 u5)))) (cond u11 u2 (Option.bind u6 fun r18 => cond (hide !r18.1) u3 (Option.bind u7 fun r19 => cond (hide !r19.1) u1 (Option.bind u8 fun r20 => cond (hide !r20.1) u4 u5))))))) (cond u13 (cond u13 u12 (cond u9 (cond u9 u2 (Option.bind u6 fun r15 => cond (hide !r15.1) u3 (Option.bind u7 fun r16 => cond (hide !r16.1) u1 (Option.bind u8 fun r17 => cond (hide !r17.1) u4 u5)))) (cond u10 (cond u10 u2 (Option.bind u6 fun r12 => cond (hide !r12.1) u3 (Option.bind u7 fun r13 => cond (hide !r13.1) u1 (Option.bind u8 fun r14 => cond (hide !r14.1) u4 u5)))) (cond u11 u2 (Option.bind u6 fun r9 => cond (hide !r9.1) u3 (Option.bind u7 fun r10 => cond (hide !r10.1) u1 (Option.bind u8 fun r11 => cond (hide !r11.1) u4 u5))))))) (cond (hide (ltI (200 : Int) (↑v3.length : Int))) u12 (cond u9 (cond u9 u2 (Option.bind u6 fun r6 => cond (hide !r6.1) u3 (Option.bind u7 fun r7 => cond (hide !r7.1) u1 (Option.bind u8 fun r8 => cond (hide !r8.1) u4 u5)))) (cond u10 (cond u10 u2 (Option.bind u6 fun r3 => cond (hide !r3.1) u3 (Option.bind u7 fun r4 => cond (hide !r4.1) u1 (Option.bind u8 fun r5 => cond (hide !r5.1) u4 u5)))) (cond u11 u2 (Option.bind u6 fun r0 => cond (hide !r0.1) u3 (Option.bind u7 fun r1 => cond (hide !r1.1) u1 (Option.bind u8 fun r2 => cond (hide !r2.1) u4 u5)))))))))
def g119 (N : Nat) : Sg := sgK [(K.agg [.int, .int, .ro .row, .ro .pair] rfl)] [K.int] fun x => p119 N x.1.1 x.1.2.1 x.1.2.2.1 x.1.2.2.2.1
def zzq : List (Nat × Head) := [
    ]
def zzr (N : Nat) : List (Nat × Sg) := [(200, g200 N), (201, g201 N), (202, g202 N)]
theorem zqI (N : Nat) : zaL Try.prog pd.els (zzr N) := ⟨zwP N, ⟨zwQ N, ⟨zwS N, trivial⟩⟩⟩
theorem zlP (N : Nat) : SgOK Try.prog pd.els 119 (g119 N) :=
  zaB zaP (zak (zqI N)) Try.func119 (zan (by kernel_rfl)) [(K.agg [.int, .int, .ro .row, .ro .pair] rfl)] [K.int] _ N zzq 4 fun x => by kernel_rfl
def zlQ (N : Nat) (A_1000 : Int -> Int -> (List Row) -> (List Pr) -> (List Int) -> Option (List Int × Unit)) (A_19 : Bool -> Int -> Int -> Int -> Int -> (List Row) -> (List Pr) -> (List Int) -> Option (List Int × Unit)) (turned5 : Bool) (t64 t65 ob0_0 ob0_1 : Int) (ob0_2 : List Row) (ob0_3 : List Pr) (l3o : List Int) : Option (List Int × Unit) :=
  let u1 := List.getD l3o t65.toNat (0 : Int)
  let u2 := (↑l3o.length : Int)
  let u3 := List.getD l3o (Int.toNat u1) (0 : Int)
  let u4 := leI (0 : Int) t65 && ltI t65 u2
  let u5 := leI (0 : Int) u1 && ltI u1 u2
  let u6 := hide (wr (t65 + (1 : Int)))
  cond (hide (ltI t65 t64)) (must u4 (must u5 (cond (hide (ltI u3 u1)) (must u5 (must u4 (A_19 true t64 u6 ob0_0 ob0_1 ob0_2 ob0_3 (setL l3o t65.toNat u3)))) (A_19 turned5 t64 u6 ob0_0 ob0_1 ob0_2 ob0_3 l3o)))) (cond turned5 (A_1000 ob0_0 ob0_1 ob0_2 ob0_3 l3o) (some ((l3o, ()))))
def zlR (N : Nat) (A_1000 : Int -> Int -> (List Row) -> (List Pr) -> (List Int) -> Option (List Int × Unit)) (n : Nat) (turned5 : Bool) (t64 t65 ob0_0 ob0_1 : Int) (ob0_2 : List Row) (ob0_3 : List Pr) (l3o : List Int) : Option (List Int × Unit) :=
  zam (fun A x => zlQ N A_1000 (fun turned5 t64 t65 ob0_0 ob0_1 ob0_2 ob0_3 l3o => A (((), ((), (turned5, ((), (t64, (t65, ())))))), ((ob0_0, (ob0_1, (ob0_2, (ob0_3, ())))), (l3o, ())))) x.1.2.2.1 x.1.2.2.2.2.1 x.1.2.2.2.2.2.1 x.2.1.1 x.2.1.2.1 x.2.1.2.2.1 x.2.1.2.2.2.1 x.2.2.1) n (((), ((), (turned5, ((), (t64, (t65, ())))))), ((ob0_0, (ob0_1, (ob0_2, (ob0_3, ())))), (l3o, ())))
def zlS (N : Nat) (A_1000 : Int -> Int -> (List Row) -> (List Pr) -> (List Int) -> Option (List Int × Unit)) (A_11 : Bool -> (List Pr) -> Int -> Int -> Int -> Int -> (List Row) -> (List Pr) -> (List Int) -> Option (List Int × Unit)) (turned5 : Bool) (t29 : List Pr) (t30 t31 ob0_0 ob0_1 : Int) (ob0_2 : List Row) (ob0_3 : List Pr) (l3o : List Int) : Option (List Int × Unit) :=
  let u1 := List.getD t29 t31.toNat (Pr.mk (0 : Int) (0 : Int))
  let u4 := Int.toNat (Pr.x u1)
  let u9 := List.getD l3o u4 (0 : Int)
  let u7 := Pr.y u1
  let u5 := List.getD l3o (Int.toNat u7) (0 : Int)
  let u2 := mnI u9 u5
  let u6 := (↑l3o.length : Int)
  let u3 := leI (0 : Int) (Pr.x u1) && ltI (Pr.x u1) u6
  let u8 := hide (wr (t31 + (1 : Int)))
  cond (hide (ltI t31 t30)) (must (leI (0 : Int) t31 && ltI t31 (↑t29.length : Int)) (must u3 (must (leI (0 : Int) u7 && ltI u7 u6) (cond (hide !eqI u9 u5) (must u3 (must (leI (0 : Int) u7 && ltI u7 (↑(List.length (setL l3o u4 u2)) : Int)) (A_11 true t29 t30 u8 ob0_0 ob0_1 ob0_2 ob0_3 (setL (setL l3o u4 u2) (Int.toNat u7) u2)))) (A_11 turned5 t29 t30 u8 ob0_0 ob0_1 ob0_2 ob0_3 l3o))))) (zlR N A_1000 N turned5 (u6) (0 : Int) ob0_0 ob0_1 ob0_2 ob0_3 l3o)
def zlT (N : Nat) (A_1000 : Int -> Int -> (List Row) -> (List Pr) -> (List Int) -> Option (List Int × Unit)) (n : Nat) (turned5 : Bool) (t29 : List Pr) (t30 t31 ob0_0 ob0_1 : Int) (ob0_2 : List Row) (ob0_3 : List Pr) (l3o : List Int) : Option (List Int × Unit) :=
  zam (fun A x => zlS N A_1000 (fun turned5 t29 t30 t31 ob0_0 ob0_1 ob0_2 ob0_3 l3o => A (((), ((), (turned5, (t29, (t30, (t31, ())))))), ((ob0_0, (ob0_1, (ob0_2, (ob0_3, ())))), (l3o, ())))) x.1.2.2.1 x.1.2.2.2.1 x.1.2.2.2.2.1 x.1.2.2.2.2.2.1 x.2.1.1 x.2.1.2.1 x.2.1.2.2.1 x.2.1.2.2.2.1 x.2.2.1) n (((), ((), (turned5, (t29, (t30, (t31, ())))))), ((ob0_0, (ob0_1, (ob0_2, (ob0_3, ())))), (l3o, ())))
def zgA (N : Nat) (A_1000 : Int -> Int -> (List Row) -> (List Pr) -> (List Int) -> Option (List Int × Unit)) (ob0_0 ob0_1 : Int) (ob0_2 : List Row) (ob0_3 : List Pr) (l3o : List Int) : Option (List Int × Unit) :=
  zlT N A_1000 N false ob0_3 ((↑ob0_3.length : Int)) (0 : Int) ob0_0 ob0_1 ob0_2 ob0_3 l3o
def zgB (N n : Nat) (ob0_0 ob0_1 : Int) (ob0_2 : List Row) (ob0_3 : List Pr) (l3o : List Int) : Option (List Int × Unit) :=
  zam (fun A x => zgA N (fun ob0_0 ob0_1 ob0_2 ob0_3 l3o => A (((), ((), ())), ((ob0_0, (ob0_1, (ob0_2, (ob0_3, ())))), (l3o, ())))) x.2.1.1 x.2.1.2.1 x.2.1.2.2.1 x.2.1.2.2.2.1 x.2.2.1) n (((), ((), ())), ((ob0_0, (ob0_1, (ob0_2, (ob0_3, ())))), (l3o, ())))
def zqJ (N : Nat) (A_5 : Int -> Int -> Int -> Int -> (List Row) -> (List Pr) -> (List Int) -> Option (List Int × Unit)) (t19 t20 ob0_0 ob0_1 : Int) (ob0_2 : List Row) (ob0_3 : List Pr) (l3o : List Int) : Option (List Int × Unit) :=
  cond (hide (ltI t20 t19)) (must (leI (0 : Int) t20 && ltI t20 (↑l3o.length : Int)) (A_5 t19 (hide (wr (t20 + (1 : Int)))) ob0_0 ob0_1 ob0_2 ob0_3 (setL l3o t20.toNat t20))) (zgB N N ob0_0 ob0_1 ob0_2 ob0_3 l3o)
def zqK (N n : Nat) (t19 t20 ob0_0 ob0_1 : Int) (ob0_2 : List Row) (ob0_3 : List Pr) (l3o : List Int) : Option (List Int × Unit) :=
  zam (fun A x => zqJ N (fun t19 t20 ob0_0 ob0_1 ob0_2 ob0_3 l3o => A (((), ((), (t19, (t20, ())))), ((ob0_0, (ob0_1, (ob0_2, (ob0_3, ())))), (l3o, ())))) x.1.2.2.1 x.1.2.2.2.1 x.2.1.1 x.2.1.2.1 x.2.1.2.2.1 x.2.1.2.2.2.1 x.2.2.1) n (((), ((), (t19, (t20, ())))), ((ob0_0, (ob0_1, (ob0_2, (ob0_3, ())))), (l3o, ())))
def p134 (N : Nat) (c0 v1 : Int) (v2 : List Row) (v3 : List Pr) : Option (List Int × Unit) :=
  Option.bind (p119 N c0 v1 v2 v3) fun r0 => cond (hide !eqI r0.1 (0 : Int)) (some (([], ()))) (must (leI (0 : Int) v1 && (eqI v1 v1 && leN (Int.toNat v1 * (8 : Nat)) (140737488355328 : Nat))) (zqK N N ((↑(List.length (List.replicate v1.toNat (0 : Int))) : Int)) (0 : Int) c0 v1 v2 v3 (List.replicate v1.toNat (0 : Int))))
def g134 (N : Nat) : Sg := sgK [(K.agg [.int, .int, .ro .row, .ro .pair] rfl)] [(K.ro .int)] fun x => p134 N x.1.1 x.1.2.1 x.1.2.2.1 x.1.2.2.2.1
def zzs : List (Nat × Head) := [
    (5, ⟨⟨86, [(1, .u (.c (.ptr0 6000000 0))), (3, .u (.c (.row 6000001))), (19, .u (.c (.int))), (20, .u (.c (.int)))], [(6000000, ⟨false, 0, 80, .lit [.int, .int, .ro .row, .ro .pair]⟩), (6000001, ⟨true, 0, 3, .vec .int⟩)]⟩, .exit 0⟩),
    (1000, ⟨⟨86, [(1, .u (.c (.ptr0 1001000000 0))), (3, .u (.c (.row 1001000001)))], [(1001000000, ⟨false, 0, 80, .lit [.int, .int, .ro .row, .ro .pair]⟩), (1001000001, ⟨true, 0, 3, .vec .int⟩)]⟩, .fall⟩),
    (11, ⟨⟨86, [(1, .u (.c (.ptr0 12000000 0))), (3, .u (.c (.row 12000001))), (5, .u (.c (.bool))), (29, .u (.c (.ro .pair))), (30, .u (.c (.int))), (31, .u (.c (.int)))], [(12000000, ⟨false, 0, 80, .lit [.int, .int, .ro .row, .ro .pair]⟩), (12000001, ⟨true, 0, 3, .vec .int⟩)]⟩, .exit 2⟩),
    (19, ⟨⟨86, [(1, .u (.c (.ptr0 20000000 0))), (3, .u (.c (.row 20000001))), (5, .u (.c (.bool))), (63, .u (.c (.row 20000001))), (64, .u (.c (.int))), (65, .u (.c (.int)))], [(20000000, ⟨false, 0, 80, .lit [.int, .int, .ro .row, .ro .pair]⟩), (20000001, ⟨true, 0, 3, .vec .int⟩)]⟩, .exit 4⟩)]
def zzt (N : Nat) : List (Nat × Sg) := [(119, g119 N)]
theorem zqL (N : Nat) : zaL Try.prog pd.els (zzt N) := ⟨zlP N, trivial⟩
theorem zwT (N : Nat) : SgOK Try.prog pd.els 134 (g134 N) :=
  zaB zaP (zak (zqL N)) Try.func134 (zan (by kernel_rfl)) [(K.agg [.int, .int, .ro .row, .ro .pair] rfl)] [(K.ro .int)] _ N zzs 4 fun x => by kernel_rfl
end
section
def p218 (N : Nat) : Option (Fr × Unit) :=
  Option.bind (p173 N (1 : UInt64)) fun rr0 => some ((rr0.1, ()))
def g218 (N : Nat) : Sg := sgK [] [K.fr] fun x => p218 N
def zzu : List (Nat × Head) := [
    ]
def zzv (N : Nat) : List (Nat × Sg) := [(173, g173 N)]
theorem zqM (N : Nat) : zaL Try.prog pd.els (zzv N) := ⟨zjh N, trivial⟩
theorem zwU (N : Nat) : SgOK Try.prog pd.els 218 (g218 N) :=
  zaB zaP (zak (zqM N)) Try.func218 (zan (by kernel_rfl)) [] [K.fr] _ N zzu 4 fun x => by kernel_rfl
def zlU (N : Nat) (A_14 : Int -> Row -> (List Int) -> Option (List Row × Int × Unit)) (i7 : Int) (ob0 : Row) (ob1 : List Int) : Option (List Row × Int × Unit) :=
  let u1 := mxI (List.getD ob1 i7.toNat (0 : Int)) (-1 : Int)
  let u2 := (↑((0 : Nat) + (1 : Nat) + (1 : Nat)) : Int)
  let u3 := (↑((0 : Nat) + (1 : Nat)) : Int)
  let u4 := (↑(0 : Nat) : Int)
  cond (hide (ltI i7 (3 : Int))) (must (leI (0 : Int) i7 && ltI i7 (↑(3 : Nat) : Int)) (cond (eqI i7 u4) (must (eqI i7 u4) (A_14 (hide (wr (u4 + (1 : Int)))) (Row.mk (ob0.q0) (ob0.q1) (ob0.q2) (ob0.q3) (ob0.q4) (ob0.q5) (ob0.q6) (ob0.q7) u1 ob0.w1 ob0.w2) ob1)) (cond (eqI i7 u3) (must (eqI i7 u3) (A_14 (hide (wr (u3 + (1 : Int)))) (Row.mk (ob0.q0) (ob0.q1) (ob0.q2) (ob0.q3) (ob0.q4) (ob0.q5) (ob0.q6) (ob0.q7) ob0.w0 u1 ob0.w2) ob1)) (must (eqI i7 u2) (must (eqI i7 u2) (A_14 (hide (wr (u2 + (1 : Int)))) (Row.mk (ob0.q0) (ob0.q1) (ob0.q2) (ob0.q3) (ob0.q4) (ob0.q5) (ob0.q6) (ob0.q7) ob0.w0 ob0.w1 u1) ob1)))))) (some (([ob0], (0 : Int), ())))
def zlV (N n : Nat) (i7 : Int) (ob0 : Row) (ob1 : List Int) : Option (List Row × Int × Unit) :=
  zam (fun A x => zlU N (fun i7 ob0 ob1 => A (((), ((), (i7, ()))), (ob0, (ob1, ())))) x.1.2.2.1 x.2.1 x.2.2.1) n (((), ((), (i7, ()))), (ob0, (ob1, ())))
def zlW (N : Nat) (A_10 : Int -> Stp -> Row -> (List Int) -> Option (List Row × Int × Unit)) (i6 : Int) (ob0 : Stp) (ob1 : Row) (ob2 : List Int) : Option (List Row × Int × Unit) :=
  let u1 := cond (eqI i6 (↑((0 : Nat) + (1 : Nat) + (1 : Nat) + (1 : Nat) + (1 : Nat) + (1 : Nat)) : Int)) (none) (cond (eqI i6 (↑((0 : Nat) + (1 : Nat) + (1 : Nat) + (1 : Nat) + (1 : Nat) + (1 : Nat) + (1 : Nat)) : Int)) (none) (must (eqI i6 (↑((0 : Nat) + (1 : Nat) + (1 : Nat) + (1 : Nat) + (1 : Nat) + (1 : Nat) + (1 : Nat) + (1 : Nat)) : Int)) (none)))
  let u2 := (↑((0 : Nat) + (1 : Nat) + (1 : Nat) + (1 : Nat) + (1 : Nat)) : Int)
  let u3 := (↑((0 : Nat) + (1 : Nat) + (1 : Nat) + (1 : Nat)) : Int)
  let u8 := (↑((0 : Nat) + (1 : Nat) + (1 : Nat)) : Int)
  let u4 := eqI i6 u8
  let u11 := (↑((0 : Nat) + (1 : Nat)) : Int)
  let u5 := eqI i6 u11
  let u6 := eqI i6 (↑(0 : Nat) : Int)
  let u9 := eqI i6 u3
  let u10 := eqI i6 u2
  let u7 := cond u9 (none) (cond u10 (none) u1)
  cond (hide (ltI i6 (5 : Int))) (cond u6 (must u6 (cond u6 (A_10 (hide (wr ((↑(0 : Nat) : Int) + (1 : Int)))) (ob0) (Row.mk (ob0.q0) (ob1.q1) (ob1.q2) (ob1.q3) (ob1.q4) (ob1.q5) (ob1.q6) (ob1.q7) ob1.w0 ob1.w1 ob1.w2) ob2) (cond u5 (none) (cond u4 (none) u7)))) (cond u5 (must u5 (cond u6 (none) (cond u5 (A_10 (hide (wr (u11 + (1 : Int)))) (ob0) (Row.mk (ob1.q0) (ob0.q1) (ob1.q2) (ob1.q3) (ob1.q4) (ob1.q5) (ob1.q6) (ob1.q7) ob1.w0 ob1.w1 ob1.w2) ob2) (cond u4 (none) u7)))) (cond u4 (must u4 (cond u6 (none) (cond u5 (none) (cond u4 (A_10 (hide (wr (u8 + (1 : Int)))) (ob0) (Row.mk (ob1.q0) (ob1.q1) (ob0.q2) (ob1.q3) (ob1.q4) (ob1.q5) (ob1.q6) (ob1.q7) ob1.w0 ob1.w1 ob1.w2) ob2) u7)))) (cond u9 (must u9 (cond u6 (none) (cond u5 (none) (cond u4 (none) (cond u9 (A_10 (hide (wr (u3 + (1 : Int)))) (ob0) (Row.mk (ob1.q0) (ob1.q1) (ob1.q2) (ob0.q3) (ob1.q4) (ob1.q5) (ob1.q6) (ob1.q7) ob1.w0 ob1.w1 ob1.w2) ob2) (cond u10 (none) u1)))))) (must u10 (must u10 (cond u6 (none) (cond u5 (none) (cond u4 (none) (cond u9 (none) (cond u10 (A_10 (hide (wr (u2 + (1 : Int)))) (ob0) (Row.mk (ob1.q0) (ob1.q1) (ob1.q2) (ob1.q3) (ob0.q4) (ob1.q5) (ob1.q6) (ob1.q7) ob1.w0 ob1.w1 ob1.w2) ob2) u1))))))))))) (zlV N N (0 : Int) (ob1) ob2)
def zlX (N n : Nat) (i6 : Int) (ob0 : Stp) (ob1 : Row) (ob2 : List Int) : Option (List Row × Int × Unit) :=
  zam (fun A x => zlW N (fun i6 ob0 ob1 ob2 => A (((), ((), ((), (i6, ())))), (ob0, (ob1, (ob2, ()))))) x.1.2.2.2.1 x.2.1 x.2.2.1 x.2.2.2.1) n (((), ((), ((), (i6, ())))), (ob0, (ob1, (ob2, ()))))
def p197 (N : Nat) (s0 : Stp) : Option (List Row × Int × Unit) :=
  let u1 := Fr.zero
  let u2 := zlX N N (0 : Int) (s0) (Row.mk u1 u1 u1 u1 u1 u1 u1 u1 (-1 : Int) (-1 : Int) (-1 : Int)) ([Stp.v0 s0, Stp.v1 s0, Stp.v2 s0])
  let u3 := hide (eqI s0.kind (1 : Int))
  let u4 := hide (eqI s0.kind (2 : Int))
  let u5 := hide (eqI s0.kind (3 : Int))
  let u6 := hide (eqI s0.kind (4 : Int))
  let u7 := hide (eqI s0.kind (7 : Int))
  let u8 := hide (eqI s0.kind (5 : Int))
  let u9 := some (([], (11 : Int), ()))
  let u10 := some (([], (0 : Int), ()))
  cond u3 (cond u3 u10 (cond u4 u2 (cond u5 (Option.bind (p218 N) fun rr7 => some (([Row.mk u1 u1 u1 u1 u1 (rr7.1) u1 u1 s0.v0 (-1 : Int) (-1 : Int)], (0 : Int), ()))) (cond u6 (Option.bind (p218 N) fun rr6 => some (([Row.mk u1 u1 u1 u1 u1 u1 (rr6.1) u1 s0.v0 (-1 : Int) s0.v2], (0 : Int), ()))) (cond u7 (Option.bind (p218 N) fun rr5 => some (([Row.mk u1 (rr5.1) u1 u1 u1 u1 u1 u1 s0.v0 (-1 : Int) (-1 : Int)], (0 : Int), ()))) (cond u8 (Option.bind (p218 N) fun rr4 => some (([Row.mk u1 u1 u1 u1 u1 u1 u1 (rr4.1) s0.v0 s0.v1 (-1 : Int), Row.mk u1 u1 u1 u1 u1 u1 u1 u1 s0.v2 (-1 : Int) (-1 : Int)], (0 : Int), ()))) u9)))))) (cond (hide (eqI s0.kind (6 : Int))) u10 (cond u4 u2 (cond u5 (Option.bind (p218 N) fun rr3 => some (([Row.mk u1 u1 u1 u1 u1 (rr3.1) u1 u1 s0.v0 (-1 : Int) (-1 : Int)], (0 : Int), ()))) (cond u6 (Option.bind (p218 N) fun rr2 => some (([Row.mk u1 u1 u1 u1 u1 u1 (rr2.1) u1 s0.v0 (-1 : Int) s0.v2], (0 : Int), ()))) (cond u7 (Option.bind (p218 N) fun rr1 => some (([Row.mk u1 (rr1.1) u1 u1 u1 u1 u1 u1 s0.v0 (-1 : Int) (-1 : Int)], (0 : Int), ()))) (cond u8 (Option.bind (p218 N) fun rr0 => some (([Row.mk u1 u1 u1 u1 u1 u1 u1 (rr0.1) s0.v0 s0.v1 (-1 : Int), Row.mk u1 u1 u1 u1 u1 u1 u1 u1 s0.v2 (-1 : Int) (-1 : Int)], (0 : Int), ()))) u9))))))
def g197 (N : Nat) : Sg := sgK [(K.st .step)] [(K.ro .row), K.int] fun x => p197 N x.1
def zzw : List (Nat × Head) := [
    (10, ⟨⟨93, [(1, .u (.c (.ptr0 11000000 0))), (4, .u (.c (.ptr0 11000001 0))), (5, .u (.c (.ptr0 11000002 0))), (6, .u (.c (.int)))], [(11000000, ⟨false, 0, 112, .st .step⟩), (11000001, ⟨false, 0, 116, .st .row⟩), (11000002, ⟨false, 3, 110, .vec .int⟩)]⟩, .exit 1⟩),
    (14, ⟨⟨93, [(4, .u (.c (.ptr0 15000000 0))), (5, .u (.c (.ptr0 15000001 0))), (7, .u (.c (.int)))], [(15000000, ⟨false, 0, 116, .st .row⟩), (15000001, ⟨false, 3, 110, .vec .int⟩)]⟩, .exit 3⟩)]
def zzx (N : Nat) : List (Nat × Sg) := [(218, g218 N)]
theorem zqN (N : Nat) : zaL Try.prog pd.els (zzx N) := ⟨zwU N, trivial⟩
theorem zwV (N : Nat) : SgOK Try.prog pd.els 197 (g197 N) :=
  zaB zaP (zak (zqN N)) Try.func197 (zan (by kernel_rfl)) [(K.st .step)] [(K.ro .row), K.int] _ N zzw 4 fun x => by kernel_rfl
end
section
structure F5 where
  (k0 k1 k2 k3 k4 : Fr)
def F5.l (x : F5) : List Fr := [x.k0, x.k1, x.k2, x.k3, x.k4]
def F5.of? (l : List Fr) : Option F5 := match l with
  | [a, b, c, d, e] => some ⟨a, b, c, d, e⟩
  | _ => none
theorem F5.of_ok {l : List Fr} {x : F5} (h : F5.of? l = some x) : l = x.l := by
  unfold F5.of? at h
  split at h
  . cases h; rfl
  . cases h
def K.bl3 : K := ⟨TCs [.int, .ro .row, .ro .row] × Nat, fun x => .agg (zcc [.int, .ro .row, .ro .row] x.1 ++ [.len x.2]), fun u => match u with
  | .agg xs => match zec [.int, .ro .row, .ro .row] (xs.take 3), xs.drop 3 with
    | some y, [.len n] => some (y, n)
    | _, _ => none
  | _ => none, fun u x h => by
  split at h
  . rename_i xs
    split at h
    . rename_i y n h1 h2
      cases h
      have h3 := zhY (l := [.int, .ro .row, .ro .row]) rfl h1
      rw [← h3, ← h2, List.take_append_drop]
    . cases h
  . cases h⟩
end
end Go.Proofs.Ytgimohchocjgcaa.V
