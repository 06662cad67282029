import Derived.Test.YtgimohchocjgcaaVTL
import Derived.KernelRfl
set_option linter.unusedVariables false
set_option linter.unusedSimpArgs false
namespace Go.Proofs.Ytgimohchocjgcaa.V
section
def p211 (N : Nat) (x0 : UInt32) (k1 : Int) : Option (UInt32 × Unit) :=
  some ((hide (hide (zcv x0 (UInt64.toNat (hide (hide (u64I k1) &&& (31 : UInt64))))) ||| hide (zbz x0 (UInt64.toNat (hide ((32 : UInt64) - hide (hide (u64I k1) &&& (31 : UInt64))))))), ()))
def g211 (N : Nat) : Sg := sgK [K.u32, K.int] [K.u32] fun x => p211 N x.1 x.2.1
def zrv : List (Nat × Head) := [
    ]
def zrw (N : Nat) : List (Nat × Sg) := []
theorem zlR (N : Nat) : zbx Try.prog pd.els (zrw N) := trivial
theorem zlS (N : Nat) : SgOK Try.prog pd.els 211 (g211 N) :=
  zaU zbR (zan (zlR N)) Try.func211 (zav (by kernel_rfl)) [K.u32, K.int] [K.u32] _ N zrv 4 fun x => by kernel_rfl
def p155 (N : Nat) (x0 : UInt32) (a1 b2 c3 : Int) : Option (UInt32 × Unit) :=
  Option.bind (p211 N x0 (hide (wr ((0 : Int) - a1)))) fun r0 => Option.bind (p211 N x0 (hide (wr ((0 : Int) - b2)))) fun r1 => Option.bind (p211 N x0 (hide (wr ((0 : Int) - c3)))) fun r2 => some ((hide (hide (Prod.fst r0 ^^^ Prod.fst r1) ^^^ Prod.fst r2), ()))
def g155 (N : Nat) : Sg := sgK [K.u32, K.int, K.int, K.int] [K.u32] fun x => p155 N x.1 x.2.1 x.2.2.1 x.2.2.2.1
def zrx : List (Nat × Head) := [
    ]
def zry (N : Nat) : List (Nat × Sg) := [(211, g211 N)]
theorem zlT (N : Nat) : zbx Try.prog pd.els (zry N) := ⟨zlS N, trivial⟩
theorem zp9 (N : Nat) : SgOK Try.prog pd.els 155 (g155 N) :=
  zaU zbR (zan (zlT N)) Try.func155 (zav (by kernel_rfl)) [K.u32, K.int, K.int, K.int] [K.u32] _ N zrx 4 fun x => by kernel_rfl
def p210 (N : Nat) (x0 : UInt32) (a1 b2 c3 : Int) : Option (UInt32 × Unit) :=
  Option.bind (p211 N x0 (hide (wr ((0 : Int) - a1)))) fun r0 => Option.bind (p211 N x0 (hide (wr ((0 : Int) - b2)))) fun r1 => some ((hide (hide (Prod.fst r0 ^^^ Prod.fst r1) ^^^ hide (zbz x0 (UInt64.toNat (hide (u64I c3))))), ()))
def g210 (N : Nat) : Sg := sgK [K.u32, K.int, K.int, K.int] [K.u32] fun x => p210 N x.1 x.2.1 x.2.2.1 x.2.2.2.1
def zrz : List (Nat × Head) := [
    ]
def zrA (N : Nat) : List (Nat × Sg) := [(211, g211 N)]
theorem zlU (N : Nat) : zbx Try.prog pd.els (zrA N) := ⟨zlS N, trivial⟩
theorem zqa (N : Nat) : SgOK Try.prog pd.els 210 (g210 N) :=
  zaU zbR (zan (zlU N)) Try.func210 (zav (by kernel_rfl)) [K.u32, K.int, K.int, K.int] [K.u32] _ N zrz 4 fun x => by kernel_rfl
def p149 (N : Nat) : Option (List UInt32 × Unit) :=
  some (([(1779033703 : UInt32), (3144134277 : UInt32), (1013904242 : UInt32), (2773480762 : UInt32), (1359893119 : UInt32), (2600822924 : UInt32), (528734635 : UInt32), (1541459225 : UInt32)], ()))
def g149 (N : Nat) : Sg := sgK [] [(K.vec .u32)] fun x => p149 N
def zrB : List (Nat × Head) := [
    ]
def zrC (N : Nat) : List (Nat × Sg) := []
theorem zlV (N : Nat) : zbx Try.prog pd.els (zrC N) := trivial
theorem zqb (N : Nat) : SgOK Try.prog pd.els 149 (g149 N) :=
  zaU zbR (zan (zlV N)) Try.func149 (zav (by kernel_rfl)) [] [(K.vec .u32)] _ N zrB 4 fun x => by kernel_rfl
def zlW (N : Nat) (A_6 : UInt64 -> Int -> (List UInt8) -> Option (List UInt8 × Unit)) (n4 : UInt64) (shift5 : Int) (out3o : List UInt8) : Option (List UInt8 × Unit) :=
  cond (hide (leI (0 : Int) shift5)) (must (leN ((List.length out3o + List.length [hide (UInt8.ofNat (UInt64.toNat (hide (zas n4 (UInt64.toNat (hide (u64I shift5)))))))]) * (1 : Nat)) (140737488355328 : Nat)) (A_6 n4 (hide (wr (shift5 - (8 : Int)))) (out3o ++ [hide (UInt8.ofNat (UInt64.toNat (hide (zas n4 (UInt64.toNat (hide (u64I shift5)))))))]))) (some ((out3o, ())))
def zlX (N n : Nat) (n4 : UInt64) (shift5 : Int) (out3o : List UInt8) : Option (List UInt8 × Unit) :=
  zaj (fun A x => zlW N (fun n4 shift5 out3o => A (((), (n4, (shift5, ()))), (out3o, ()))) x.1.2.1 x.1.2.2.1 x.2.1) n (((), (n4, (shift5, ()))), (out3o, ()))
def zlY (N : Nat) (A_2 : (List UInt8) -> (List UInt8) -> Option (List UInt8 × Unit)) (b0 out3o : List UInt8) : Option (List UInt8 × Unit) :=
  cond (hide !eqI (hide (Int.tmod (↑out3o.length : Int) (64 : Int))) (56 : Int)) (must (leN ((List.length out3o + List.length [(0 : UInt8)]) * (1 : Nat)) (140737488355328 : Nat)) (A_2 b0 (out3o ++ [(0 : UInt8)]))) (zlX N N (hide (hide (u64I (↑b0.length : Int)) * (8 : UInt64))) (56 : Int) out3o)
def zlZ (N n : Nat) (b0 out3o : List UInt8) : Option (List UInt8 × Unit) :=
  zaj (fun A x => zlY N (fun b0 out3o => A ((b0, ((), ())), (out3o, ()))) x.1.1 x.2.1) n ((b0, ((), ())), (out3o, ()))
def p150 (N : Nat) (b0 : List UInt8) : Option (List UInt8 × Unit) :=
  must (leN (((0 : Nat) + List.length b0) * (1 : Nat)) (140737488355328 : Nat)) (must (leN ((List.length b0 + List.length [(128 : UInt8)]) * (1 : Nat)) (140737488355328 : Nat)) (zlZ N N b0 (b0 ++ [(128 : UInt8)])))
def g150 (N : Nat) : Sg := sgK [(K.ro .u8)] [(K.ro .u8)] fun x => p150 N x.1
def zrD : List (Nat × Head) := [
    (2, ⟨⟨35, [(0, .u (.c (.ro .u8))), (3, .u (.c (.row 3000000)))], [(3000000, ⟨true, 0, 5, .vec .u8⟩)]⟩, .exit 0⟩),
    (6, ⟨⟨35, [(3, .u (.c (.row 7000000))), (4, .u (.c (.u64))), (5, .u (.c (.int)))], [(7000000, ⟨true, 0, 5, .vec .u8⟩)]⟩, .exit 2⟩)]
def zrE (N : Nat) : List (Nat × Sg) := []
theorem zl0 (N : Nat) : zbx Try.prog pd.els (zrE N) := trivial
theorem zqc (N : Nat) : SgOK Try.prog pd.els 150 (g150 N) :=
  zaU zbR (zan (zl0 N)) Try.func150 (zav (by kernel_rfl)) [(K.ro .u8)] [(K.ro .u8)] _ N zrD 4 fun x => by kernel_rfl
def p154 (N : Nat) : Option (List UInt32 × Unit) :=
  some (([(1116352408 : UInt32), (1899447441 : UInt32), (3049323471 : UInt32), (3921009573 : UInt32), (961987163 : UInt32), (1508970993 : UInt32), (2453635748 : UInt32), (2870763221 : UInt32), (3624381080 : UInt32), (310598401 : UInt32), (607225278 : UInt32), (1426881987 : UInt32), (1925078388 : UInt32), (2162078206 : UInt32), (2614888103 : UInt32), (3248222580 : UInt32), (3835390401 : UInt32), (4022224774 : UInt32), (264347078 : UInt32), (604807628 : UInt32), (770255983 : UInt32), (1249150122 : UInt32), (1555081692 : UInt32), (1996064986 : UInt32), (2554220882 : UInt32), (2821834349 : UInt32), (2952996808 : UInt32), (3210313671 : UInt32), (3336571891 : UInt32), (3584528711 : UInt32), (113926993 : UInt32), (338241895 : UInt32), (666307205 : UInt32), (773529912 : UInt32), (1294757372 : UInt32), (1396182291 : UInt32), (1695183700 : UInt32), (1986661051 : UInt32), (2177026350 : UInt32), (2456956037 : UInt32), (2730485921 : UInt32), (2820302411 : UInt32), (3259730800 : UInt32), (3345764771 : UInt32), (3516065817 : UInt32), (3600352804 : UInt32), (4094571909 : UInt32), (275423344 : UInt32), (430227734 : UInt32), (506948616 : UInt32), (659060556 : UInt32), (883997877 : UInt32), (958139571 : UInt32), (1322822218 : UInt32), (1537002063 : UInt32), (1747873779 : UInt32), (1955562222 : UInt32), (2024104815 : UInt32), (2227730452 : UInt32), (2361852424 : UInt32), (2428436474 : UInt32), (2756734187 : UInt32), (3204031479 : UInt32), (3329325298 : UInt32)], ()))
def g154 (N : Nat) : Sg := sgK [] [(K.vec .u32)] fun x => p154 N
def zrF : List (Nat × Head) := [
    ]
def zrG (N : Nat) : List (Nat × Sg) := []
theorem zl1 (N : Nat) : zbx Try.prog pd.els (zrG N) := trivial
theorem zqd (N : Nat) : SgOK Try.prog pd.els 154 (g154 N) :=
  zaU zbR (zan (zl1 N)) Try.func154 (zav (by kernel_rfl)) [] [(K.vec .u32)] _ N zrF 4 fun x => by kernel_rfl
def ziw (N : Nat) (A_12 : Int -> (List UInt32) -> (List UInt32) -> Option (List UInt32 × Unit)) (i7 : Int) (ob0 ob1 : List UInt32) : Option (List UInt32 × Unit) :=
  let u1 := (↑(64 : Nat) : Int)
  let u2 := hide (wr (i7 - (16 : Int)))
  let u3 := hide (wr (i7 - (15 : Int)))
  let u4 := hide (wr (i7 - (7 : Int)))
  let u5 := hide (wr (i7 - (2 : Int)))
  cond (hide (ltI i7 (64 : Int))) (must (leI (0 : Int) u2 && ltI u2 u1) (must (leI (0 : Int) u3 && ltI u3 u1) (Option.bind (p210 N (List.getD ob1 (Int.toNat u3) (0 : UInt32)) (7 : Int) (18 : Int) (3 : Int)) fun r0 => must (leI (0 : Int) u4 && ltI u4 u1) (must (leI (0 : Int) u5 && ltI u5 u1) (Option.bind (p210 N (List.getD ob1 (Int.toNat u5) (0 : UInt32)) (17 : Int) (19 : Int) (10 : Int)) fun r1 => must (leI (0 : Int) i7 && ltI i7 u1) (A_12 (hide (wr (i7 + (1 : Int)))) ob0 (setL ob1 i7.toNat (hide (hide (hide (List.getD ob1 (Int.toNat u2) (0 : UInt32) + Prod.fst r0) + List.getD ob1 (Int.toNat u4) (0 : UInt32)) + Prod.fst r1))))))))) (must (Nat.beq ob1.length (64 : Nat)) (some ((ob1, ()))))
def zix (N n : Nat) (i7 : Int) (ob0 ob1 : List UInt32) : Option (List UInt32 × Unit) :=
  zaj (fun A x => ziw N (fun i7 ob0 ob1 => A (((), ((), (i7, ()))), (ob0, (ob1, ())))) x.1.2.2.1 x.2.1 x.2.2.1) n (((), ((), (i7, ()))), (ob0, (ob1, ())))
def zl2 (N : Nat) (A_3 : Int -> (List UInt8) -> (List UInt32) -> (List UInt32) -> Option (List UInt32 × Unit)) (A_6 : Int -> Int -> Nat -> Nat -> Int -> Int -> (List UInt8) -> (List UInt32) -> (List UInt32) -> Option (List UInt32 × Unit)) (i4 t8 : Int) (t16f t16n : Nat) (t17 t18 : Int) (t16o : List UInt8) (ob1 ob2 : List UInt32) : Option (List UInt32 × Unit) :=
  cond (hide (ltI t18 t17)) (must (leI (0 : Int) t18 && ltI t18 (↑t16n : Int)) (must (leI (0 : Int) i4 && ltI i4 (↑(64 : Nat) : Int)) (must (leI (0 : Int) i4 && ltI i4 (↑(64 : Nat) : Int)) (A_6 i4 t8 t16f t16n t17 (hide (wr (t18 + (1 : Int)))) t16o ob1 (setL ob2 i4.toNat (hide (hide (zcv (List.getD ob2 i4.toNat (0 : UInt32)) (UInt64.toNat (8 : UInt64))) ||| hide (UInt32.ofNat (UInt8.toNat (List.getD t16o (t16f + Int.toNat t18) (0 : UInt8))))))))))) (A_3 (hide (wr (t8 + (1 : Int)))) t16o ob1 ob2)
def zl3 (N : Nat) (A_3 : Int -> (List UInt8) -> (List UInt32) -> (List UInt32) -> Option (List UInt32 × Unit)) (n : Nat) (i4 t8 : Int) (t16f t16n : Nat) (t17 t18 : Int) (t16o : List UInt8) (ob1 ob2 : List UInt32) : Option (List UInt32 × Unit) :=
  zaj (fun A x => zl2 N A_3 (fun i4 t8 t16f t16n t17 t18 t16o ob1 ob2 => A (((), ((), ((), (i4, (t8, ((t16f, t16n), (t17, (t18, ())))))))), (t16o, (ob1, (ob2, ()))))) x.1.2.2.2.1 x.1.2.2.2.2.1 x.1.2.2.2.2.2.1.1 x.1.2.2.2.2.2.1.2 x.1.2.2.2.2.2.2.1 x.1.2.2.2.2.2.2.2.1 x.2.1 x.2.2.1 x.2.2.2.1) n (((), ((), ((), (i4, (t8, ((t16f, t16n), (t17, (t18, ())))))))), (t16o, (ob1, (ob2, ()))))
def zl4 (N : Nat) (A_3 : Int -> (List UInt8) -> (List UInt32) -> (List UInt32) -> Option (List UInt32 × Unit)) (t8 : Int) (ob0 : List UInt8) (ob1 ob2 : List UInt32) : Option (List UInt32 × Unit) :=
  cond (hide (ltI t8 (16 : Int))) (must (leI (0 : Int) (hide (wr ((4 : Int) * t8))) && (leI (hide (wr ((4 : Int) * t8))) (hide (wr (hide (wr ((4 : Int) * t8)) + (4 : Int)))) && leI (hide (wr (hide (wr ((4 : Int) * t8)) + (4 : Int)))) (↑(64 : Nat) : Int))) (zl3 N A_3 N t8 t8 (Int.toNat (hide (wr ((4 : Int) * t8)))) (Int.toNat (hide (wr (hide (wr ((4 : Int) * t8)) + (4 : Int))) - hide (wr ((4 : Int) * t8)))) ((↑(Int.toNat (hide (wr (hide (wr ((4 : Int) * t8)) + (4 : Int))) - hide (wr ((4 : Int) * t8)))) : Int)) (0 : Int) ob0 ob1 ob2)) (zix N N (16 : Int) ob1 ob2)
def zl5 (N n : Nat) (t8 : Int) (ob0 : List UInt8) (ob1 ob2 : List UInt32) : Option (List UInt32 × Unit) :=
  zaj (fun A x => zl4 N (fun t8 ob0 ob1 ob2 => A (((), ((), ((), (t8, ())))), (ob0, (ob1, (ob2, ()))))) x.1.2.2.2.1 x.2.1 x.2.2.1 x.2.2.2.1) n (((), ((), ((), (t8, ())))), (ob0, (ob1, (ob2, ()))))
def p153 (N : Nat) (b0 : List UInt8) : Option (List UInt32 × Unit) :=
  let u1 := [(0 : UInt32), (0 : UInt32), (0 : UInt32), (0 : UInt32), (0 : UInt32), (0 : UInt32), (0 : UInt32), (0 : UInt32), (0 : UInt32), (0 : UInt32), (0 : UInt32), (0 : UInt32), (0 : UInt32), (0 : UInt32), (0 : UInt32), (0 : UInt32), (0 : UInt32), (0 : UInt32), (0 : UInt32), (0 : UInt32), (0 : UInt32), (0 : UInt32), (0 : UInt32), (0 : UInt32), (0 : UInt32), (0 : UInt32), (0 : UInt32), (0 : UInt32), (0 : UInt32), (0 : UInt32), (0 : UInt32), (0 : UInt32), (0 : UInt32), (0 : UInt32), (0 : UInt32), (0 : UInt32), (0 : UInt32), (0 : UInt32), (0 : UInt32), (0 : UInt32), (0 : UInt32), (0 : UInt32), (0 : UInt32), (0 : UInt32), (0 : UInt32), (0 : UInt32), (0 : UInt32), (0 : UInt32), (0 : UInt32), (0 : UInt32), (0 : UInt32), (0 : UInt32), (0 : UInt32), (0 : UInt32), (0 : UInt32), (0 : UInt32), (0 : UInt32), (0 : UInt32), (0 : UInt32), (0 : UInt32), (0 : UInt32), (0 : UInt32), (0 : UInt32), (0 : UInt32)]
  must (Nat.beq b0.length (64 : Nat)) (zl5 N N (0 : Int) b0 u1 u1)
def g153 (N : Nat) : Sg := sgK [(K.vec .u8)] [(K.vec .u32)] fun x => p153 N x.1
def zrH : List (Nat × Head) := [
    (3, ⟨⟨61, [(1, .u (.c (.ptr0 4000000 0))), (2, .u (.c (.ptr0 4000001 0))), (3, .u (.c (.ptr0 4000002 0))), (8, .u (.c (.int)))], [(4000000, ⟨false, 64, 29, .vec .u8⟩), (4000001, ⟨false, 64, 172, .vec .u32⟩), (4000002, ⟨false, 64, 172, .vec .u32⟩)]⟩, .exit 0⟩),
    (12, ⟨⟨61, [(2, .u (.c (.ptr0 13000000 0))), (3, .u (.c (.ptr0 13000001 0))), (7, .u (.c (.int)))], [(13000000, ⟨false, 64, 172, .vec .u32⟩), (13000001, ⟨false, 64, 172, .vec .u32⟩)]⟩, .exit 4⟩),
    (6, ⟨⟨61, [(1, .u (.c (.ptr0 7000000 0))), (2, .u (.c (.ptr0 7000001 0))), (3, .u (.c (.ptr0 7000002 0))), (4, .u (.c (.int))), (8, .u (.c (.int))), (16, .u (.c (.sl 7000000))), (17, .u (.c (.int))), (18, .u (.c (.int)))], [(7000000, ⟨false, 64, 29, .vec .u8⟩), (7000001, ⟨false, 64, 172, .vec .u32⟩), (7000002, ⟨false, 64, 172, .vec .u32⟩)]⟩, .exit 2⟩)]
def zrI (N : Nat) : List (Nat × Sg) := [(210, g210 N)]
theorem zl6 (N : Nat) : zbx Try.prog pd.els (zrI N) := ⟨zqa N, trivial⟩
theorem zqe (N : Nat) : SgOK Try.prog pd.els 153 (g153 N) :=
  zaU zbR (zan (zl6 N)) Try.func153 (zav (by kernel_rfl)) [(K.vec .u8)] [(K.vec .u32)] _ N zrH 4 fun x => by kernel_rfl
def zqf (N : Nat) (A_9 : (List UInt32) -> Int -> (List UInt32) -> (List UInt32) -> Option (List UInt32 × Unit)) (t89 : List UInt32) (t90 : Int) (ob0 ob1 : List UInt32) : Option (List UInt32 × Unit) :=
  cond (hide (ltI t90 (8 : Int))) (must (leI (0 : Int) t90 && (ltI t90 (↑(8 : Nat) : Int) && ltI t90 (↑t89.length : Int))) (must (leI (0 : Int) t90 && ltI t90 (↑(8 : Nat) : Int)) (must (leI (0 : Int) t90 && ltI t90 (↑(8 : Nat) : Int)) (A_9 t89 (hide (wr (t90 + (1 : Int)))) (setL ob0 t90.toNat (hide (List.getD ob0 t90.toNat (0 : UInt32) + List.getD t89 t90.toNat (0 : UInt32)))) ob1)))) (must (Nat.beq ob0.length (8 : Nat)) (some ((ob0, ()))))
def zqg (N n : Nat) (t89 : List UInt32) (t90 : Int) (ob0 ob1 : List UInt32) : Option (List UInt32 × Unit) :=
  zaj (fun A x => zqf N (fun t89 t90 ob0 ob1 => A (((), ((), (t89, (t90, ())))), (ob0, (ob1, ())))) x.1.2.2.1 x.1.2.2.2.1 x.2.1 x.2.2.1) n (((), ((), (t89, (t90, ())))), (ob0, (ob1, ())))
def zgG (N : Nat) (A_1000 : Int -> (List UInt32) -> (List UInt32) -> (List UInt32) -> (List UInt32) -> (List UInt32) -> Option (List UInt32 × Unit)) (i8 : Int) (ob0 ob1 ob2 ob3 ob4 : List UInt32) : Option (List UInt32 × Unit) :=
  Option.bind (p155 N (List.getD ob4 (4 : Nat) (0 : UInt32)) (6 : Int) (11 : Int) (25 : Int)) fun r0 => let w0 := hide (hide (hide (List.getD ob4 (7 : Nat) (0 : UInt32) + Prod.fst r0) + hide (hide (List.getD ob4 (4 : Nat) (0 : UInt32) &&& List.getD ob4 (5 : Nat) (0 : UInt32)) ^^^ hide (hide (~~~List.getD ob4 (4 : Nat) (0 : UInt32)) &&& List.getD ob4 (6 : Nat) (0 : UInt32)))) + List.getD ob3 i8.toNat (0 : UInt32)) + List.getD ob2 i8.toNat (0 : UInt32); let w1 := List.getD ob4 (3 : Nat) (0 : UInt32) + hide w0; must (leI (0 : Int) i8 && ltI i8 (↑(64 : Nat) : Int)) (must (leI (0 : Int) i8 && ltI i8 (↑(64 : Nat) : Int)) (Option.bind (p155 N (List.getD ob4 (0 : Nat) (0 : UInt32)) (2 : Int) (13 : Int) (22 : Int)) fun r1 => let w2 := [hide (hide w0 + hide (Prod.fst r1 + hide (hide (hide (List.getD ob4 (0 : Nat) (0 : UInt32) &&& List.getD ob4 (1 : Nat) (0 : UInt32)) ^^^ hide (List.getD ob4 (0 : Nat) (0 : UInt32) &&& List.getD ob4 (2 : Nat) (0 : UInt32))) ^^^ hide (List.getD ob4 (1 : Nat) (0 : UInt32) &&& List.getD ob4 (2 : Nat) (0 : UInt32))))), List.getD ob4 (0 : Nat) (0 : UInt32), List.getD ob4 (1 : Nat) (0 : UInt32), List.getD ob4 (2 : Nat) (0 : UInt32), hide w1, List.getD ob4 (4 : Nat) (0 : UInt32), List.getD ob4 (5 : Nat) (0 : UInt32), List.getD ob4 (6 : Nat) (0 : UInt32)]; cond (hide (ltI (hide (wr (i8 + (1 : Int)))) (64 : Int))) (A_1000 (hide (wr (i8 + (1 : Int)))) ob0 ob1 ob2 ob3 w2) (zqg N N w2 (0 : Int) ob0 ob1)))
def zgH (N n : Nat) (i8 : Int) (ob0 ob1 ob2 ob3 ob4 : List UInt32) : Option (List UInt32 × Unit) :=
  zaj (fun A x => zgG N (fun i8 ob0 ob1 ob2 ob3 ob4 => A (((), ((), ((), ((), ((), (i8, ())))))), (ob0, (ob1, (ob2, (ob3, (ob4, ()))))))) x.1.2.2.2.2.2.1 x.2.1 x.2.2.1 x.2.2.2.1 x.2.2.2.2.1 x.2.2.2.2.2.1) n (((), ((), ((), ((), ((), (i8, ())))))), (ob0, (ob1, (ob2, (ob3, (ob4, ()))))))
def p48 (N : Nat) (h0 : List UInt32) (b1 : List UInt8) : Option (List UInt32 × Unit) :=
  must (Nat.beq h0.length (8 : Nat)) (must (Nat.beq b1.length (64 : Nat)) (Option.bind (p153 N b1) fun r0 => Option.bind (p154 N) fun r1 => must (Nat.beq r0.1.length (64 : Nat)) (must (Nat.beq r1.1.length (64 : Nat)) (must (Nat.beq h0.length (8 : Nat)) (zgH N N (0 : Int) h0 ([(0 : UInt32), (0 : UInt32), (0 : UInt32), (0 : UInt32), (0 : UInt32), (0 : UInt32), (0 : UInt32), (0 : UInt32)]) r0.1 r1.1 h0)))))
def g48 (N : Nat) : Sg := sgK [(K.vec .u32), (K.vec .u8)] [(K.vec .u32)] fun x => p48 N x.1 x.2.1
def zsY : List (Nat × Head) := [
    (1000, ⟨⟨102, [(2, .u (.c (.ptr0 1001000000 0))), (4, .u (.c (.ptr0 1001000001 0))), (5, .u (.c (.ptr0 1001000002 0))), (6, .u (.c (.ptr0 1001000003 0))), (7, .u (.c (.ptr0 1001000004 0))), (8, .u (.c (.int)))], [(1001000000, ⟨false, 8, 28, .vec .u32⟩), (1001000001, ⟨false, 8, 28, .vec .u32⟩), (1001000002, ⟨false, 64, 172, .vec .u32⟩), (1001000003, ⟨false, 64, 172, .vec .u32⟩), (1001000004, ⟨false, 8, 28, .vec .u32⟩)]⟩, .fall⟩),
    (9, ⟨⟨102, [(2, .u (.c (.ptr0 10000000 0))), (4, .u (.c (.ptr0 10000001 0))), (89, .u (.vec .u32)), (90, .u (.c (.int)))], [(10000000, ⟨false, 8, 28, .vec .u32⟩), (10000001, ⟨false, 8, 28, .vec .u32⟩)]⟩, .exit 0⟩)]
def zsZ (N : Nat) : List (Nat × Sg) := [(153, g153 N), (154, g154 N), (155, g155 N)]
theorem zn8 (N : Nat) : zbx Try.prog pd.els (zsZ N) := ⟨zqe N, ⟨zqd N, ⟨zp9 N, trivial⟩⟩⟩
theorem zpd (N : Nat) : SgOK Try.prog pd.els 48 (g48 N) :=
  zaU zbR (zan (zn8 N)) Try.func48 (zav (by kernel_rfl)) [(K.vec .u32), (K.vec .u8)] [(K.vec .u32)] _ N zsY 4 fun x => by kernel_rfl
def zl7 (N : Nat) (A_8 : (List UInt32) -> Int -> (List UInt8) -> (List UInt8) -> Option (List UInt8 × Unit)) (A_11 : Int -> UInt32 -> (List UInt32) -> Int -> Int -> (List UInt8) -> (List UInt8) -> Option (List UInt8 × Unit)) (i6 : Int) (v7 : UInt32) (t23 : List UInt32) (t24 t28 : Int) (ob0 ob1 : List UInt8) : Option (List UInt8 × Unit) :=
  cond (hide (ltI t28 (4 : Int))) (must (leI (0 : Int) (hide (wr (hide (wr ((4 : Int) * i6)) + t28))) && ltI (hide (wr (hide (wr ((4 : Int) * i6)) + t28))) (↑(32 : Nat) : Int)) (A_11 i6 v7 t23 t24 (hide (wr (t28 + (1 : Int)))) ob0 (setL ob1 (Int.toNat (hide (wr (hide (wr ((4 : Int) * i6)) + t28)))) (hide (UInt8.ofNat (UInt32.toNat (hide (zbz v7 (UInt64.toNat (hide (u64I (hide (wr ((24 : Int) - hide (wr ((8 : Int) * t28)))))))))))))))) (A_8 t23 (hide (wr (t24 + (1 : Int)))) ob0 ob1)
def zl8 (N : Nat) (A_8 : (List UInt32) -> Int -> (List UInt8) -> (List UInt8) -> Option (List UInt8 × Unit)) (n : Nat) (i6 : Int) (v7 : UInt32) (t23 : List UInt32) (t24 t28 : Int) (ob0 ob1 : List UInt8) : Option (List UInt8 × Unit) :=
  zaj (fun A x => zl7 N A_8 (fun i6 v7 t23 t24 t28 ob0 ob1 => A (((), ((), (i6, (v7, (t23, (t24, (t28, ()))))))), (ob0, (ob1, ())))) x.1.2.2.1 x.1.2.2.2.1 x.1.2.2.2.2.1 x.1.2.2.2.2.2.1 x.1.2.2.2.2.2.2.1 x.2.1 x.2.2.1) n (((), ((), (i6, (v7, (t23, (t24, (t28, ()))))))), (ob0, (ob1, ())))
def zqh (N : Nat) (A_8 : (List UInt32) -> Int -> (List UInt8) -> (List UInt8) -> Option (List UInt8 × Unit)) (t23 : List UInt32) (t24 : Int) (ob0 ob1 : List UInt8) : Option (List UInt8 × Unit) :=
  cond (hide (ltI t24 (8 : Int))) (must (leI (0 : Int) t24 && (ltI t24 (↑(8 : Nat) : Int) && ltI t24 (↑t23.length : Int))) (zl8 N A_8 N t24 (List.getD t23 t24.toNat (0 : UInt32)) t23 t24 (0 : Int) ob0 ob1)) (must (Nat.beq ob1.length (32 : Nat)) (some ((ob1, ()))))
def zqi (N n : Nat) (t23 : List UInt32) (t24 : Int) (ob0 ob1 : List UInt8) : Option (List UInt8 × Unit) :=
  zaj (fun A x => zqh N (fun t23 t24 ob0 ob1 => A (((), ((), (t23, (t24, ())))), (ob0, (ob1, ())))) x.1.2.2.1 x.1.2.2.2.1 x.2.1 x.2.2.1) n (((), ((), (t23, (t24, ())))), (ob0, (ob1, ())))
def zqj (N : Nat) (A_3 : Nat -> Nat -> (List UInt8) -> (List UInt32) -> (List UInt8) -> Option (List UInt8 × Unit)) (l4f l4n : Nat) (ob0 : List UInt8) (ob1 : List UInt32) (l4o : List UInt8) : Option (List UInt8 × Unit) :=
  let u1 := (↑l4n : Int)
  cond (hide (ltI (0 : Int) u1)) (must (leI (64 : Int) u1) (must (leN (l4f + Int.toNat (0 : Int) + (64 : Nat)) l4o.length) (Option.bind (p48 N ob1 (List.take (64 : Nat) (List.drop (l4f + Int.toNat (0 : Int)) l4o))) fun r0 => must (Nat.beq r0.1.length (8 : Nat)) (must (leI (64 : Int) u1 && leI u1 u1) (A_3 (l4f + Int.toNat (64 : Int)) (Int.toNat (u1 - (64 : Int))) ob0 r0.1 l4o))))) (zqi N N ob1 (0 : Int) ob0 ([(0 : UInt8), (0 : UInt8), (0 : UInt8), (0 : UInt8), (0 : UInt8), (0 : UInt8), (0 : UInt8), (0 : UInt8), (0 : UInt8), (0 : UInt8), (0 : UInt8), (0 : UInt8), (0 : UInt8), (0 : UInt8), (0 : UInt8), (0 : UInt8), (0 : UInt8), (0 : UInt8), (0 : UInt8), (0 : UInt8), (0 : UInt8), (0 : UInt8), (0 : UInt8), (0 : UInt8), (0 : UInt8), (0 : UInt8), (0 : UInt8), (0 : UInt8), (0 : UInt8), (0 : UInt8), (0 : UInt8), (0 : UInt8)]))
def zqk (N n l4f l4n : Nat) (ob0 : List UInt8) (ob1 : List UInt32) (l4o : List UInt8) : Option (List UInt8 × Unit) :=
  zaj (fun A x => zqj N (fun l4f l4n ob0 ob1 l4o => A (((), ((), ((l4f, l4n), ()))), (ob0, (ob1, (l4o, ()))))) x.1.2.2.1.1 x.1.2.2.1.2 x.2.1 x.2.2.1 x.2.2.2.1) n (((), ((), ((l4f, l4n), ()))), (ob0, (ob1, (l4o, ()))))
def p42 (N : Nat) (b0 : List UInt8) : Option (List UInt8 × Unit) :=
  Option.bind (p149 N) fun r0 => must (Nat.beq r0.1.length (8 : Nat)) (Option.bind (p150 N b0) fun r1 => zqk N N (0 : Nat) r1.1.length ([(0 : UInt8), (0 : UInt8), (0 : UInt8), (0 : UInt8), (0 : UInt8), (0 : UInt8), (0 : UInt8), (0 : UInt8), (0 : UInt8), (0 : UInt8), (0 : UInt8), (0 : UInt8), (0 : UInt8), (0 : UInt8), (0 : UInt8), (0 : UInt8), (0 : UInt8), (0 : UInt8), (0 : UInt8), (0 : UInt8), (0 : UInt8), (0 : UInt8), (0 : UInt8), (0 : UInt8), (0 : UInt8), (0 : UInt8), (0 : UInt8), (0 : UInt8), (0 : UInt8), (0 : UInt8), (0 : UInt8), (0 : UInt8)]) r0.1 r1.1)
def g42 (N : Nat) : Sg := sgK [(K.ro .u8)] [(K.vec .u8)] fun x => p42 N x.1
def zs0 : List (Nat × Head) := [
    (3, ⟨⟨46, [(2, .u (.c (.ptr0 4000000 0))), (3, .u (.c (.ptr0 4000001 0))), (4, .u (.c (.sl 4000002)))], [(4000000, ⟨false, 32, 22, .vec .u8⟩), (4000001, ⟨false, 8, 28, .vec .u32⟩), (4000002, ⟨true, 0, 5, .vec .u8⟩)]⟩, .exit 0⟩),
    (8, ⟨⟨46, [(2, .u (.c (.ptr0 9000000 0))), (5, .u (.c (.ptr0 9000001 0))), (23, .u (.vec .u32)), (24, .u (.c (.int)))], [(9000000, ⟨false, 32, 22, .vec .u8⟩), (9000001, ⟨false, 32, 22, .vec .u8⟩)]⟩, .exit 2⟩),
    (11, ⟨⟨46, [(2, .u (.c (.ptr0 12000000 0))), (5, .u (.c (.ptr0 12000001 0))), (6, .u (.c (.int))), (7, .u (.c (.u32))), (23, .u (.vec .u32)), (24, .u (.c (.int))), (28, .u (.c (.int)))], [(12000000, ⟨false, 32, 22, .vec .u8⟩), (12000001, ⟨false, 32, 22, .vec .u8⟩)]⟩, .exit 4⟩)]
def zs1 (N : Nat) : List (Nat × Sg) := [(149, g149 N), (150, g150 N), (48, g48 N)]
theorem zn9 (N : Nat) : zbx Try.prog pd.els (zs1 N) := ⟨zqb N, ⟨zqc N, ⟨zpd N, trivial⟩⟩⟩
theorem zpe (N : Nat) : SgOK Try.prog pd.els 42 (g42 N) :=
  zaU zbR (zan (zn9 N)) Try.func42 (zav (by kernel_rfl)) [(K.ro .u8)] [(K.vec .u8)] _ N zs0 4 fun x => by kernel_rfl
def p209 (N : Nat) (x0 : UInt32) (n1 : Int) : Option (UInt32 × Unit) :=
  must (leI (0 : Int) n1) (must (ltI n1 (18446744073709551616 : Int)) (must (leI (0 : Int) (hide (wr ((32 : Int) - n1)))) (must (ltI (hide (wr ((32 : Int) - n1))) (18446744073709551616 : Int)) (some ((hide (hide (zbz x0 (UInt64.toNat (UInt64.ofNat n1.toNat))) ||| hide (zcv x0 (UInt64.toNat (UInt64.ofNat (Int.toNat (hide (wr ((32 : Int) - n1)))))))), ()))))))
def g209 (N : Nat) : Sg := sgK [K.u32, K.int] [K.u32] fun x => p209 N x.1 x.2.1
def zrJ : List (Nat × Head) := [
    ]
def zrK (N : Nat) : List (Nat × Sg) := []
theorem zl9 (N : Nat) : zbx Try.prog pd.els (zrK N) := trivial
theorem zql (N : Nat) : SgOK Try.prog pd.els 209 (g209 N) :=
  zaU zbR (zan (zl9 N)) Try.func209 (zav (by kernel_rfl)) [K.u32, K.int] [K.u32] _ N zrJ 4 fun x => by kernel_rfl
def p212 (N : Nat) (v0 n1 : UInt64) (cube2 : Bool) : Option (Bool × Unit) :=
  Option.bind (p163 N v0 v0) fun r0 => cond (hide !cube2) (cond (hide (ltN r0.1.toNat n1.toNat)) (some ((true, ()))) (cond (hide (Prod.fst r0 == n1)) (some ((hide (Prod.fst r0.2 == (0 : UInt64)), ()))) (some ((false, ()))))) (Option.bind (p163 N (r0.2.1) v0) fun r1 => Option.bind (p163 N r0.1 v0) fun r2 => Option.bind (kAdd r1.1 (r2.2.1) (0 : UInt64)) fun r3 => Option.bind (p163 N r0.1 v0) fun r4 => cond (hide !hide (Prod.fst r4 + Prod.snd r3) == (0 : UInt64)) (some ((false, ()))) (cond (hide (ltN r3.1.toNat (UInt64.toNat (hide (zdz n1 (UInt64.toNat (32 : UInt64))))))) (some ((true, ()))) (cond (hide (Prod.fst r3 == hide (zdz n1 (UInt64.toNat (32 : UInt64))))) (some ((hide (Prod.fst r1.2 == (0 : UInt64)), ()))) (some ((false, ()))))))
def g212 (N : Nat) : Sg := sgK [K.u64, K.u64, K.bool] [K.bool] fun x => p212 N x.1 x.2.1 x.2.2.1
def zrL : List (Nat × Head) := [
    ]
def zrM (N : Nat) : List (Nat × Sg) := [(163, g163 N), (164, sg3 kAdd)]
theorem zma (N : Nat) : zbx Try.prog pd.els (zrM N) := ⟨zp8 N, ⟨zp7, trivial⟩⟩
theorem zqm (N : Nat) : SgOK Try.prog pd.els 212 (g212 N) :=
  zaU zbR (zan (zma N)) Try.func212 (zav (by kernel_rfl)) [K.u64, K.u64, K.bool] [K.bool] _ N zrL 4 fun x => by kernel_rfl
def zmb (N : Nat) (A_3 : UInt64 -> (List UInt64) -> Option (List UInt64 × Unit)) (A_7 : UInt64 -> Bool -> Int -> (List UInt64) -> Option (List UInt64 × Unit)) (n2 : UInt64) (is3 : Bool) (i4 : Int) (l1o : List UInt64) : Option (List UInt64 × Unit) :=
  cond (hide (ltI i4 (↑l1o.length : Int))) (cond is3 (must (leI (0 : Int) i4 && ltI i4 (↑l1o.length : Int)) (must (!List.getD l1o i4.toNat (0 : UInt64) == (0 : UInt64)) (A_7 n2 (hide !hide (n2 % List.getD l1o i4.toNat (0 : UInt64)) == (0 : UInt64)) (hide (wr (i4 + (1 : Int)))) l1o))) (A_7 n2 false (hide (wr (i4 + (1 : Int)))) l1o)) (cond is3 (must (leN ((List.length l1o + List.length [n2]) * (8 : Nat)) (140737488355328 : Nat)) (A_3 (hide (n2 + (1 : UInt64))) (l1o ++ [n2]))) (A_3 (hide (n2 + (1 : UInt64))) l1o))
def zmc (N : Nat) (A_3 : UInt64 -> (List UInt64) -> Option (List UInt64 × Unit)) (n : Nat) (n2 : UInt64) (is3 : Bool) (i4 : Int) (l1o : List UInt64) : Option (List UInt64 × Unit) :=
  zaj (fun A x => zmb N A_3 (fun n2 is3 i4 l1o => A (((), (n2, (is3, (i4, ())))), (l1o, ()))) x.1.2.1 x.1.2.2.1 x.1.2.2.2.1 x.2.1) n (((), (n2, (is3, (i4, ())))), (l1o, ()))
def zmd (N : Nat) (A_3 : UInt64 -> (List UInt64) -> Option (List UInt64 × Unit)) (n2 : UInt64) (l1o : List UInt64) : Option (List UInt64 × Unit) :=
  cond (hide (ltI (↑l1o.length : Int) (64 : Int))) (zmc N A_3 N n2 true (0 : Int) l1o) (some ((l1o, ())))
def zme (N n : Nat) (n2 : UInt64) (l1o : List UInt64) : Option (List UInt64 × Unit) :=
  zaj (fun A x => zmd N (fun n2 l1o => A (((), (n2, ())), (l1o, ()))) x.1.2.1 x.2.1) n (((), (n2, ())), (l1o, ()))
def p156 (N : Nat) : Option (List UInt64 × Unit) :=
  zme N N (2 : UInt64) []
def g156 (N : Nat) : Sg := sgK [] [(K.ro .u64)] fun x => p156 N
def zrN : List (Nat × Head) := [
    (3, ⟨⟨32, [(1, .u (.c (.row 4000000))), (2, .u (.c (.u64)))], [(4000000, ⟨true, 0, 42, .vec .u64⟩)]⟩, .exit 0⟩),
    (7, ⟨⟨32, [(1, .u (.c (.row 8000000))), (2, .u (.c (.u64))), (3, .u (.c (.bool))), (4, .u (.c (.int)))], [(8000000, ⟨true, 0, 42, .vec .u64⟩)]⟩, .exit 2⟩)]
def zrO (N : Nat) : List (Nat × Sg) := []
theorem zmf (N : Nat) : zbx Try.prog pd.els (zrO N) := trivial
theorem zmg (N : Nat) : SgOK Try.prog pd.els 156 (g156 N) :=
  zaU zbR (zan (zmf N)) Try.func156 (zav (by kernel_rfl)) [] [(K.ro .u64)] _ N zrN 4 fun x => by kernel_rfl
def zmh (N : Nat) (A_3 : UInt64 -> Bool -> UInt64 -> Int -> Option (UInt32 × Unit)) (n0 : UInt64) (cube1 : Bool) (v5 : UInt64) (i6 : Int) : Option (UInt32 × Unit) :=
  cond (hide (leI (0 : Int) i6)) (must (leI (0 : Int) i6) (must (ltI i6 (18446744073709551616 : Int)) (Option.bind (p212 N (hide (v5 + hide (zdz (1 : UInt64) (UInt64.toNat (UInt64.ofNat i6.toNat))))) n0 cube1) fun r0 => cond r0.1 (A_3 n0 cube1 (hide (v5 + hide (zdz (1 : UInt64) (UInt64.toNat (UInt64.ofNat i6.toNat))))) (hide (wr (i6 - (1 : Int))))) (A_3 n0 cube1 v5 (hide (wr (i6 - (1 : Int)))))))) (some ((hide (UInt32.ofNat v5.toNat), ())))
def zmi (N n : Nat) (n0 : UInt64) (cube1 : Bool) (v5 : UInt64) (i6 : Int) : Option (UInt32 × Unit) :=
  zaj (fun A x => zmh N (fun n0 cube1 v5 i6 => A ((n0, (cube1, (v5, (i6, ())))), ())) x.1.1 x.1.2.1 x.1.2.2.1 x.1.2.2.2.1) n ((n0, (cube1, (v5, (i6, ())))), ())
def p157 (N : Nat) (n0 : UInt64) (cube1 : Bool) : Option (UInt32 × Unit) :=
  zmi N N n0 cube1 (0 : UInt64) (36 : Int)
def g157 (N : Nat) : Sg := sgK [K.u64, K.bool] [K.u32] fun x => p157 N x.1 x.2.1
def zrP : List (Nat × Head) := [
    (3, ⟨⟨23, [(0, .u (.c (.u64))), (1, .u (.c (.bool))), (5, .u (.c (.u64))), (6, .u (.c (.int)))], []⟩, .exit 0⟩)]
def zrQ (N : Nat) : List (Nat × Sg) := [(212, g212 N)]
theorem zmj (N : Nat) : zbx Try.prog pd.els (zrQ N) := ⟨zqm N, trivial⟩
theorem zmk (N : Nat) : SgOK Try.prog pd.els 157 (g157 N) :=
  zaU zbR (zan (zmj N)) Try.func157 (zav (by kernel_rfl)) [K.u64, K.bool] [K.u32] _ N zrP 4 fun x => by kernel_rfl
def zqn (N : Nat) (A_4 : Int -> (List UInt32) -> (List UInt32) -> (List UInt64) -> Option (List UInt32 × Unit)) (i3 : Int) (ob0 ob1 : List UInt32) (p2o : List UInt64) : Option (List UInt32 × Unit) :=
  cond (hide (ltI i3 (8 : Int))) (must (leI (0 : Int) i3 && ltI i3 (↑p2o.length : Int)) (Option.bind (p157 N (List.getD p2o i3.toNat (0 : UInt64)) false) fun r0 => must (leI (0 : Int) i3 && ltI i3 (↑(8 : Nat) : Int)) (A_4 (hide (wr (i3 + (1 : Int)))) ob0 (setL ob1 i3.toNat r0.1) p2o))) (must (Nat.beq ob1.length (8 : Nat)) (some ((ob1, ()))))
def zqo (N n : Nat) (i3 : Int) (ob0 ob1 : List UInt32) (p2o : List UInt64) : Option (List UInt32 × Unit) :=
  zaj (fun A x => zqn N (fun i3 ob0 ob1 p2o => A (((), ((), ((), (i3, ())))), (ob0, (ob1, (p2o, ()))))) x.1.2.2.2.1 x.2.1 x.2.2.1 x.2.2.2.1) n (((), ((), ((), (i3, ())))), (ob0, (ob1, (p2o, ()))))
def p50 (N : Nat) : Option (List UInt32 × Unit) :=
  Option.bind (p156 N) fun r0 => zqo N N (0 : Int) ([(0 : UInt32), (0 : UInt32), (0 : UInt32), (0 : UInt32), (0 : UInt32), (0 : UInt32), (0 : UInt32), (0 : UInt32)]) ([(0 : UInt32), (0 : UInt32), (0 : UInt32), (0 : UInt32), (0 : UInt32), (0 : UInt32), (0 : UInt32), (0 : UInt32)]) r0.1
def g50 (N : Nat) : Sg := sgK [] [(K.vec .u32)] fun x => p50 N
def zs2 : List (Nat × Head) := [
    (4, ⟨⟨17, [(0, .u (.c (.ptr0 5000000 0))), (1, .u (.c (.ptr0 5000001 0))), (2, .u (.c (.row 5000002))), (3, .u (.c (.int)))], [(5000000, ⟨false, 8, 28, .vec .u32⟩), (5000001, ⟨false, 8, 28, .vec .u32⟩), (5000002, ⟨true, 0, 42, .vec .u64⟩)]⟩, .exit 0⟩)]
def zs3 (N : Nat) : List (Nat × Sg) := [(156, g156 N), (157, g157 N)]
theorem zoa (N : Nat) : zbx Try.prog pd.els (zs3 N) := ⟨zmg N, ⟨zmk N, trivial⟩⟩
theorem zrR (N : Nat) : SgOK Try.prog pd.els 50 (g50 N) :=
  zaU zbR (zan (zoa N)) Try.func50 (zav (by kernel_rfl)) [] [(K.vec .u32)] _ N zs2 4 fun x => by kernel_rfl
def zml (N : Nat) (A_4 : Int -> (List UInt32) -> (List UInt32) -> (List UInt64) -> Option (List UInt32 × Unit)) (i3 : Int) (ob0 ob1 : List UInt32) (p2o : List UInt64) : Option (List UInt32 × Unit) :=
  cond (hide (ltI i3 (64 : Int))) (must (leI (0 : Int) i3 && ltI i3 (↑p2o.length : Int)) (Option.bind (p157 N (List.getD p2o i3.toNat (0 : UInt64)) true) fun r0 => must (leI (0 : Int) i3 && ltI i3 (↑(64 : Nat) : Int)) (A_4 (hide (wr (i3 + (1 : Int)))) ob0 (setL ob1 i3.toNat r0.1) p2o))) (must (Nat.beq ob1.length (64 : Nat)) (some ((ob1, ()))))
def zmm (N n : Nat) (i3 : Int) (ob0 ob1 : List UInt32) (p2o : List UInt64) : Option (List UInt32 × Unit) :=
  zaj (fun A x => zml N (fun i3 ob0 ob1 p2o => A (((), ((), ((), (i3, ())))), (ob0, (ob1, (p2o, ()))))) x.1.2.2.2.1 x.2.1 x.2.2.1 x.2.2.2.1) n (((), ((), ((), (i3, ())))), (ob0, (ob1, (p2o, ()))))
def p151 (N : Nat) : Option (List UInt32 × Unit) :=
  let u1 := [(0 : UInt32), (0 : UInt32), (0 : UInt32), (0 : UInt32), (0 : UInt32), (0 : UInt32), (0 : UInt32), (0 : UInt32), (0 : UInt32), (0 : UInt32), (0 : UInt32), (0 : UInt32), (0 : UInt32), (0 : UInt32), (0 : UInt32), (0 : UInt32), (0 : UInt32), (0 : UInt32), (0 : UInt32), (0 : UInt32), (0 : UInt32), (0 : UInt32), (0 : UInt32), (0 : UInt32), (0 : UInt32), (0 : UInt32), (0 : UInt32), (0 : UInt32), (0 : UInt32), (0 : UInt32), (0 : UInt32), (0 : UInt32), (0 : UInt32), (0 : UInt32), (0 : UInt32), (0 : UInt32), (0 : UInt32), (0 : UInt32), (0 : UInt32), (0 : UInt32), (0 : UInt32), (0 : UInt32), (0 : UInt32), (0 : UInt32), (0 : UInt32), (0 : UInt32), (0 : UInt32), (0 : UInt32), (0 : UInt32), (0 : UInt32), (0 : UInt32), (0 : UInt32), (0 : UInt32), (0 : UInt32), (0 : UInt32), (0 : UInt32), (0 : UInt32), (0 : UInt32), (0 : UInt32), (0 : UInt32), (0 : UInt32), (0 : UInt32), (0 : UInt32), (0 : UInt32)]
  Option.bind (p156 N) fun r0 => zmm N N (0 : Int) u1 u1 r0.1
def g151 (N : Nat) : Sg := sgK [] [(K.vec .u32)] fun x => p151 N
def zrS : List (Nat × Head) := [
    (4, ⟨⟨17, [(0, .u (.c (.ptr0 5000000 0))), (1, .u (.c (.ptr0 5000001 0))), (2, .u (.c (.row 5000002))), (3, .u (.c (.int)))], [(5000000, ⟨false, 64, 172, .vec .u32⟩), (5000001, ⟨false, 64, 172, .vec .u32⟩), (5000002, ⟨true, 0, 42, .vec .u64⟩)]⟩, .exit 0⟩)]
def zrT (N : Nat) : List (Nat × Sg) := [(156, g156 N), (157, g157 N)]
theorem zmn (N : Nat) : zbx Try.prog pd.els (zrT N) := ⟨zmg N, ⟨zmk N, trivial⟩⟩
theorem zmo (N : Nat) : SgOK Try.prog pd.els 151 (g151 N) :=
  zaU zbR (zan (zmn N)) Try.func151 (zav (by kernel_rfl)) [] [(K.vec .u32)] _ N zrS 4 fun x => by kernel_rfl
def ziy (N : Nat) (A_20 : Int -> (List UInt32) -> (List UInt32) -> (List UInt32) -> Option (List UInt32 × Unit)) (i18 : Int) (ob0 ob1 ob2 : List UInt32) : Option (List UInt32 × Unit) :=
  cond (hide (ltI i18 (8 : Int))) (must (leI (0 : Int) i18 && ltI i18 (↑(8 : Nat) : Int)) (must (leI (0 : Int) i18 && ltI i18 (↑(8 : Nat) : Int)) (must (leI (0 : Int) i18 && ltI i18 (↑(8 : Nat) : Int)) (A_20 (hide (wr (i18 + (1 : Int)))) ob0 ob1 (setL ob2 i18.toNat (hide (List.getD ob2 i18.toNat (0 : UInt32) + List.getD ob0 i18.toNat (0 : UInt32)))))))) (must (Nat.beq ob2.length (8 : Nat)) (some ((ob2, ()))))
def ziz (N n : Nat) (i18 : Int) (ob0 ob1 ob2 : List UInt32) : Option (List UInt32 × Unit) :=
  zaj (fun A x => ziy N (fun i18 ob0 ob1 ob2 => A (((), ((), ((), (i18, ())))), (ob0, (ob1, (ob2, ()))))) x.1.2.2.2.1 x.2.1 x.2.2.1 x.2.2.2.1) n (((), ((), ((), (i18, ())))), (ob0, (ob1, (ob2, ()))))
def ziA (N : Nat) (A_13 : Int -> (List UInt32) -> (List UInt32) -> (List UInt32) -> (List UInt32) -> (List UInt32) -> Option (List UInt32 × Unit)) (i13 : Int) (ob0 ob1 ob2 ob3 ob4 : List UInt32) : Option (List UInt32 × Unit) :=
  cond (hide (ltI i13 (64 : Int))) (Option.bind (p209 N (List.getD ob4 (4 : Nat) (0 : UInt32)) (6 : Int)) fun r0 => Option.bind (p209 N (List.getD ob4 (4 : Nat) (0 : UInt32)) (11 : Int)) fun r1 => Option.bind (p209 N (List.getD ob4 (4 : Nat) (0 : UInt32)) (25 : Int)) fun r2 => let w0 := hide (hide (hide (List.getD ob4 (7 : Nat) (0 : UInt32) + hide (hide (Prod.fst r0 ^^^ Prod.fst r1) ^^^ Prod.fst r2)) + hide (hide (List.getD ob4 (4 : Nat) (0 : UInt32) &&& List.getD ob4 (5 : Nat) (0 : UInt32)) ^^^ hide (hide (~~~List.getD ob4 (4 : Nat) (0 : UInt32)) &&& List.getD ob4 (6 : Nat) (0 : UInt32)))) + List.getD ob1 i13.toNat (0 : UInt32)) + List.getD ob3 i13.toNat (0 : UInt32); must (leI (0 : Int) i13 && ltI i13 (↑(64 : Nat) : Int)) (must (leI (0 : Int) i13 && ltI i13 (↑(64 : Nat) : Int)) (Option.bind (p209 N (List.getD ob4 (0 : Nat) (0 : UInt32)) (2 : Int)) fun r3 => Option.bind (p209 N (List.getD ob4 (0 : Nat) (0 : UInt32)) (13 : Int)) fun r4 => Option.bind (p209 N (List.getD ob4 (0 : Nat) (0 : UInt32)) (22 : Int)) fun r5 => A_13 (hide (wr (i13 + (1 : Int)))) ob0 ob1 ob2 ob3 ([hide (hide w0 + hide (hide (hide (Prod.fst r3 ^^^ Prod.fst r4) ^^^ Prod.fst r5) + hide (hide (hide (List.getD ob4 (0 : Nat) (0 : UInt32) &&& List.getD ob4 (1 : Nat) (0 : UInt32)) ^^^ hide (List.getD ob4 (0 : Nat) (0 : UInt32) &&& List.getD ob4 (2 : Nat) (0 : UInt32))) ^^^ hide (List.getD ob4 (1 : Nat) (0 : UInt32) &&& List.getD ob4 (2 : Nat) (0 : UInt32))))), List.getD ob4 (0 : Nat) (0 : UInt32), List.getD ob4 (1 : Nat) (0 : UInt32), List.getD ob4 (2 : Nat) (0 : UInt32), hide (List.getD ob4 (3 : Nat) (0 : UInt32) + hide w0), List.getD ob4 (4 : Nat) (0 : UInt32), List.getD ob4 (5 : Nat) (0 : UInt32), List.getD ob4 (6 : Nat) (0 : UInt32)])))) (ziz N N (0 : Int) ob0 ob2 ob4)
def ziB (N n : Nat) (i13 : Int) (ob0 ob1 ob2 ob3 ob4 : List UInt32) : Option (List UInt32 × Unit) :=
  zaj (fun A x => ziA N (fun i13 ob0 ob1 ob2 ob3 ob4 => A (((), ((), ((), ((), ((), (i13, ())))))), (ob0, (ob1, (ob2, (ob3, (ob4, ()))))))) x.1.2.2.2.2.2.1 x.2.1 x.2.2.1 x.2.2.2.1 x.2.2.2.2.1 x.2.2.2.2.2.1) n (((), ((), ((), ((), ((), (i13, ())))))), (ob0, (ob1, (ob2, (ob3, (ob4, ()))))))
def zmp (N : Nat) (A_7 : Int -> (List UInt32) -> (List UInt32) -> (List UInt32) -> (List UInt32) -> Option (List UInt32 × Unit)) (i9 : Int) (ob0 ob1 ob2 ob3 : List UInt32) : Option (List UInt32 × Unit) :=
  let u4 := hide (wr (i9 - (15 : Int)))
  let u1 := List.getD ob3 (Int.toNat u4) (0 : UInt32)
  let u6 := hide (wr (i9 - (2 : Int)))
  let u2 := List.getD ob3 (Int.toNat u6) (0 : UInt32)
  let u3 := (↑(64 : Nat) : Int)
  let u5 := hide (wr (i9 - (16 : Int)))
  let u7 := hide (wr (i9 - (7 : Int)))
  cond (hide (ltI i9 (64 : Int))) (must (leI (0 : Int) u4 && ltI u4 u3) (must (leI (0 : Int) u6 && ltI u6 u3) (must (leI (0 : Int) u5 && ltI u5 u3) (Option.bind (p209 N u1 (7 : Int)) fun r0 => Option.bind (p209 N u1 (18 : Int)) fun r1 => must (leI (0 : Int) u7 && ltI u7 u3) (Option.bind (p209 N u2 (17 : Int)) fun r2 => Option.bind (p209 N u2 (19 : Int)) fun r3 => must (leI (0 : Int) i9 && ltI i9 u3) (A_7 (hide (wr (i9 + (1 : Int)))) ob0 ob1 ob2 (setL ob3 i9.toNat (hide (hide (hide (List.getD ob3 (Int.toNat u5) (0 : UInt32) + hide (hide (Prod.fst r0 ^^^ Prod.fst r1) ^^^ hide (zbz u1 (UInt64.toNat (3 : UInt64))))) + List.getD ob3 (Int.toNat u7) (0 : UInt32)) + hide (hide (Prod.fst r2 ^^^ Prod.fst r3) ^^^ hide (zbz u2 (UInt64.toNat (10 : UInt64))))))))))))) (must (Nat.beq ob0.length (8 : Nat)) (ziB N N (0 : Int) ob0 ob1 ob2 ob3 ob0))
def zmq (N n : Nat) (i9 : Int) (ob0 ob1 ob2 ob3 : List UInt32) : Option (List UInt32 × Unit) :=
  zaj (fun A x => zmp N (fun i9 ob0 ob1 ob2 ob3 => A (((), ((), ((), ((), (i9, ()))))), (ob0, (ob1, (ob2, (ob3, ())))))) x.1.2.2.2.2.1 x.2.1 x.2.2.1 x.2.2.2.1 x.2.2.2.2.1) n (((), ((), ((), ((), (i9, ()))))), (ob0, (ob1, (ob2, (ob3, ())))))
def zmr (N : Nat) (A_3 : Int -> (List UInt32) -> (List UInt8) -> (List UInt32) -> (List UInt32) -> (List UInt32) -> Option (List UInt32 × Unit)) (i8 : Int) (ob0 : List UInt32) (ob1 : List UInt8) (ob2 ob3 ob4 : List UInt32) : Option (List UInt32 × Unit) :=
  let u1 := hide (wr (Int.tdiv i8 (4 : Int)))
  let u2 := leI (0 : Int) u1 && ltI u1 (↑(64 : Nat) : Int)
  cond (hide (ltI i8 (64 : Int))) (must u2 (must (leI (0 : Int) i8 && ltI i8 (↑(64 : Nat) : Int)) (must u2 (A_3 (hide (wr (i8 + (1 : Int)))) ob0 ob1 ob2 ob3 (setL ob4 (Int.toNat u1) (hide (hide (zcv (List.getD ob4 (Int.toNat u1) (0 : UInt32)) (UInt64.toNat (8 : UInt64))) + hide (UInt32.ofNat (UInt8.toNat (List.getD ob1 i8.toNat (0 : UInt8))))))))))) (zmq N N (16 : Int) ob0 ob2 ob3 ob4)
def zms (N n : Nat) (i8 : Int) (ob0 : List UInt32) (ob1 : List UInt8) (ob2 ob3 ob4 : List UInt32) : Option (List UInt32 × Unit) :=
  zaj (fun A x => zmr N (fun i8 ob0 ob1 ob2 ob3 ob4 => A (((), ((), ((), ((), ((), (i8, ())))))), (ob0, (ob1, (ob2, (ob3, (ob4, ()))))))) x.1.2.2.2.2.2.1 x.2.1 x.2.2.1 x.2.2.2.1 x.2.2.2.2.1 x.2.2.2.2.2.1) n (((), ((), ((), ((), ((), (i8, ())))))), (ob0, (ob1, (ob2, (ob3, (ob4, ()))))))
def p152 (N : Nat) (h0 : List UInt32) (b1 : List UInt8) (k2 : List UInt32) : Option (List UInt32 × Unit) :=
  must (Nat.beq h0.length (8 : Nat)) (must (Nat.beq b1.length (64 : Nat)) (must (Nat.beq k2.length (64 : Nat)) (zms N N (0 : Int) h0 b1 k2 ([(0 : UInt32), (0 : UInt32), (0 : UInt32), (0 : UInt32), (0 : UInt32), (0 : UInt32), (0 : UInt32), (0 : UInt32)]) ([(0 : UInt32), (0 : UInt32), (0 : UInt32), (0 : UInt32), (0 : UInt32), (0 : UInt32), (0 : UInt32), (0 : UInt32), (0 : UInt32), (0 : UInt32), (0 : UInt32), (0 : UInt32), (0 : UInt32), (0 : UInt32), (0 : UInt32), (0 : UInt32), (0 : UInt32), (0 : UInt32), (0 : UInt32), (0 : UInt32), (0 : UInt32), (0 : UInt32), (0 : UInt32), (0 : UInt32), (0 : UInt32), (0 : UInt32), (0 : UInt32), (0 : UInt32), (0 : UInt32), (0 : UInt32), (0 : UInt32), (0 : UInt32), (0 : UInt32), (0 : UInt32), (0 : UInt32), (0 : UInt32), (0 : UInt32), (0 : UInt32), (0 : UInt32), (0 : UInt32), (0 : UInt32), (0 : UInt32), (0 : UInt32), (0 : UInt32), (0 : UInt32), (0 : UInt32), (0 : UInt32), (0 : UInt32), (0 : UInt32), (0 : UInt32), (0 : UInt32), (0 : UInt32), (0 : UInt32), (0 : UInt32), (0 : UInt32), (0 : UInt32), (0 : UInt32), (0 : UInt32), (0 : UInt32), (0 : UInt32), (0 : UInt32), (0 : UInt32), (0 : UInt32), (0 : UInt32)]))))
def g152 (N : Nat) : Sg := sgK [(K.vec .u32), (K.vec .u8), (K.vec .u32)] [(K.vec .u32)] fun x => p152 N x.1 x.2.1 x.2.2.1
def zrU : List (Nat × Head) := [
    (3, ⟨⟨173, [(3, .u (.c (.ptr0 4000000 0))), (4, .u (.c (.ptr0 4000001 0))), (5, .u (.c (.ptr0 4000002 0))), (6, .u (.c (.ptr0 4000003 0))), (7, .u (.c (.ptr0 4000004 0))), (8, .u (.c (.int)))], [(4000000, ⟨false, 8, 28, .vec .u32⟩), (4000001, ⟨false, 64, 29, .vec .u8⟩), (4000002, ⟨false, 64, 172, .vec .u32⟩), (4000003, ⟨false, 8, 28, .vec .u32⟩), (4000004, ⟨false, 64, 172, .vec .u32⟩)]⟩, .exit 0⟩),
    (7, ⟨⟨173, [(3, .u (.c (.ptr0 8000000 0))), (5, .u (.c (.ptr0 8000001 0))), (6, .u (.c (.ptr0 8000002 0))), (7, .u (.c (.ptr0 8000003 0))), (9, .u (.c (.int)))], [(8000000, ⟨false, 8, 28, .vec .u32⟩), (8000001, ⟨false, 64, 172, .vec .u32⟩), (8000002, ⟨false, 8, 28, .vec .u32⟩), (8000003, ⟨false, 64, 172, .vec .u32⟩)]⟩, .exit 2⟩),
    (13, ⟨⟨173, [(3, .u (.c (.ptr0 14000000 0))), (5, .u (.c (.ptr0 14000001 0))), (6, .u (.c (.ptr0 14000002 0))), (7, .u (.c (.ptr0 14000003 0))), (12, .u (.c (.ptr0 14000004 0))), (13, .u (.c (.int)))], [(14000000, ⟨false, 8, 28, .vec .u32⟩), (14000001, ⟨false, 64, 172, .vec .u32⟩), (14000002, ⟨false, 8, 28, .vec .u32⟩), (14000003, ⟨false, 64, 172, .vec .u32⟩), (14000004, ⟨false, 8, 28, .vec .u32⟩)]⟩, .exit 4⟩),
    (20, ⟨⟨173, [(3, .u (.c (.ptr0 21000000 0))), (6, .u (.c (.ptr0 21000001 0))), (12, .u (.c (.ptr0 21000002 0))), (18, .u (.c (.int)))], [(21000000, ⟨false, 8, 28, .vec .u32⟩), (21000001, ⟨false, 8, 28, .vec .u32⟩), (21000002, ⟨false, 8, 28, .vec .u32⟩)]⟩, .exit 6⟩)]
def zrV (N : Nat) : List (Nat × Sg) := [(209, g209 N)]
theorem zmt (N : Nat) : zbx Try.prog pd.els (zrV N) := ⟨zql N, trivial⟩
theorem zmu (N : Nat) : SgOK Try.prog pd.els 152 (g152 N) :=
  zaU zbR (zan (zmt N)) Try.func152 (zav (by kernel_rfl)) [(K.vec .u32), (K.vec .u8), (K.vec .u32)] [(K.vec .u32)] _ N zrU 4 fun x => by kernel_rfl
def p49 (N : Nat) (h0 : List UInt32) (b1 : List UInt8) : Option (List UInt32 × Unit) :=
  must (Nat.beq h0.length (8 : Nat)) (must (Nat.beq b1.length (64 : Nat)) (Option.bind (p151 N) fun r0 => Option.bind (p152 N h0 b1 r0.1) fun r1 => must (Nat.beq r1.1.length (8 : Nat)) (some ((Prod.fst r1, ())))))
def g49 (N : Nat) : Sg := sgK [(K.vec .u32), (K.vec .u8)] [(K.vec .u32)] fun x => p49 N x.1 x.2.1
def zs4 : List (Nat × Head) := [
    ]
def zs5 (N : Nat) : List (Nat × Sg) := [(151, g151 N), (152, g152 N)]
theorem zob (N : Nat) : zbx Try.prog pd.els (zs5 N) := ⟨zmo N, ⟨zmu N, trivial⟩⟩
theorem zrW (N : Nat) : SgOK Try.prog pd.els 49 (g49 N) :=
  zaU zbR (zan (zob N)) Try.func49 (zav (by kernel_rfl)) [(K.vec .u32), (K.vec .u8)] [(K.vec .u32)] _ N zs4 4 fun x => by kernel_rfl
def zmv (N : Nat) (A_18 : Int -> (List UInt8) -> (List UInt32) -> (List UInt8) -> Option (List UInt8 × Unit)) (i10 : Int) (ob0 : List UInt8) (ob1 : List UInt32) (ob2 : List UInt8) : Option (List UInt8 × Unit) :=
  let u1 := hide (wr ((24 : Int) - hide (wr ((8 : Int) * hide (Int.tmod i10 (4 : Int))))))
  let u2 := hide (wr (Int.tdiv i10 (4 : Int)))
  cond (hide (ltI i10 (32 : Int))) (must (leI (0 : Int) u2 && ltI u2 (↑(8 : Nat) : Int)) (must (leI (0 : Int) u1) (must (ltI u1 (18446744073709551616 : Int)) (must (leI (0 : Int) i10 && ltI i10 (↑(32 : Nat) : Int)) (A_18 (hide (wr (i10 + (1 : Int)))) ob0 ob1 (setL ob2 i10.toNat (hide (UInt8.ofNat (UInt32.toNat (hide (zbz (List.getD ob1 (Int.toNat u2) (0 : UInt32)) (UInt64.toNat (UInt64.ofNat (Int.toNat u1)))))))))))))) (must (Nat.beq ob2.length (32 : Nat)) (some ((ob2, ()))))
def zmw (N n : Nat) (i10 : Int) (ob0 : List UInt8) (ob1 : List UInt32) (ob2 : List UInt8) : Option (List UInt8 × Unit) :=
  zaj (fun A x => zmv N (fun i10 ob0 ob1 ob2 => A (((), ((), ((), (i10, ())))), (ob0, (ob1, (ob2, ()))))) x.1.2.2.2.1 x.2.1 x.2.2.1 x.2.2.2.1) n (((), ((), ((), (i10, ())))), (ob0, (ob1, (ob2, ()))))
def zmx (N : Nat) (A_11 : Int -> (List UInt8) -> (List UInt8) -> (List UInt32) -> (List UInt32) -> Option (List UInt8 × Unit)) (i7 : Int) (b0o ob1 : List UInt8) (ob2 ob3 : List UInt32) : Option (List UInt8 × Unit) :=
  let u1 := wr (i7 + (64 : Int))
  cond (hide (ltI i7 (↑b0o.length : Int))) (must (leI (0 : Int) i7 && (leI i7 (hide u1) && leI (hide u1) (↑b0o.length : Int))) (Option.bind (p152 N ob2 (zae [(0 : UInt8), (0 : UInt8), (0 : UInt8), (0 : UInt8), (0 : UInt8), (0 : UInt8), (0 : UInt8), (0 : UInt8), (0 : UInt8), (0 : UInt8), (0 : UInt8), (0 : UInt8), (0 : UInt8), (0 : UInt8), (0 : UInt8), (0 : UInt8), (0 : UInt8), (0 : UInt8), (0 : UInt8), (0 : UInt8), (0 : UInt8), (0 : UInt8), (0 : UInt8), (0 : UInt8), (0 : UInt8), (0 : UInt8), (0 : UInt8), (0 : UInt8), (0 : UInt8), (0 : UInt8), (0 : UInt8), (0 : UInt8), (0 : UInt8), (0 : UInt8), (0 : UInt8), (0 : UInt8), (0 : UInt8), (0 : UInt8), (0 : UInt8), (0 : UInt8), (0 : UInt8), (0 : UInt8), (0 : UInt8), (0 : UInt8), (0 : UInt8), (0 : UInt8), (0 : UInt8), (0 : UInt8), (0 : UInt8), (0 : UInt8), (0 : UInt8), (0 : UInt8), (0 : UInt8), (0 : UInt8), (0 : UInt8), (0 : UInt8), (0 : UInt8), (0 : UInt8), (0 : UInt8), (0 : UInt8), (0 : UInt8), (0 : UInt8), (0 : UInt8), (0 : UInt8)] (Int.toNat (0 : Int)) (List.take (Int.toNat ((↑(64 : Nat) : Int) - (0 : Int))) (List.take (Int.toNat (hide u1 - i7)) (List.drop i7.toNat b0o)))) ob3) fun r0 => must (Nat.beq r0.1.length (8 : Nat)) (A_11 (hide u1) b0o ob1 r0.1 ob3))) (zmw N N (0 : Int) ob1 ob2 ([(0 : UInt8), (0 : UInt8), (0 : UInt8), (0 : UInt8), (0 : UInt8), (0 : UInt8), (0 : UInt8), (0 : UInt8), (0 : UInt8), (0 : UInt8), (0 : UInt8), (0 : UInt8), (0 : UInt8), (0 : UInt8), (0 : UInt8), (0 : UInt8), (0 : UInt8), (0 : UInt8), (0 : UInt8), (0 : UInt8), (0 : UInt8), (0 : UInt8), (0 : UInt8), (0 : UInt8), (0 : UInt8), (0 : UInt8), (0 : UInt8), (0 : UInt8), (0 : UInt8), (0 : UInt8), (0 : UInt8), (0 : UInt8)]))
def zmy (N n : Nat) (i7 : Int) (b0o ob1 : List UInt8) (ob2 ob3 : List UInt32) : Option (List UInt8 × Unit) :=
  zaj (fun A x => zmx N (fun i7 b0o ob1 ob2 ob3 => A (((), ((), ((), ((), (i7, ()))))), (b0o, (ob1, (ob2, (ob3, ())))))) x.1.2.2.2.2.1 x.2.1 x.2.2.1 x.2.2.2.1 x.2.2.2.2.1) n (((), ((), ((), ((), (i7, ()))))), (b0o, (ob1, (ob2, (ob3, ())))))
def zqp (N : Nat) (A_6 : UInt64 -> Int -> (List UInt8) -> (List UInt8) -> Option (List UInt8 × Unit)) (n3 : UInt64) (i4 : Int) (b0o ob1 : List UInt8) : Option (List UInt8 × Unit) :=
  let u2 := hide (wr ((8 : Int) * i4))
  let u1 := UInt8.ofNat (UInt64.toNat (hide (zas n3 (UInt64.toNat (UInt64.ofNat (Int.toNat u2))))))
  cond (hide (leI (0 : Int) i4)) (must (leI (0 : Int) u2) (must (ltI u2 (18446744073709551616 : Int)) (must (leN ((List.length b0o + List.length [hide u1]) * (1 : Nat)) (140737488355328 : Nat)) (A_6 n3 (hide (wr (i4 - (1 : Int)))) (b0o ++ [hide u1]) ob1)))) (Option.bind (p50 N) fun r0 => Option.bind (p151 N) fun r1 => must (Nat.beq r0.1.length (8 : Nat)) (must (Nat.beq r1.1.length (64 : Nat)) (zmy N N (0 : Int) b0o ob1 r0.1 r1.1)))
def zqq (N n : Nat) (n3 : UInt64) (i4 : Int) (b0o ob1 : List UInt8) : Option (List UInt8 × Unit) :=
  zaj (fun A x => zqp N (fun n3 i4 b0o ob1 => A (((), ((), (n3, (i4, ())))), (b0o, (ob1, ())))) x.1.2.2.1 x.1.2.2.2.1 x.2.1 x.2.2.1) n (((), ((), (n3, (i4, ())))), (b0o, (ob1, ())))
def zqr (N : Nat) (A_3 : UInt64 -> (List UInt8) -> (List UInt8) -> Option (List UInt8 × Unit)) (n3 : UInt64) (b0o ob1 : List UInt8) : Option (List UInt8 × Unit) :=
  cond (hide !eqI (hide (Int.tmod (↑b0o.length : Int) (64 : Int))) (56 : Int)) (must (leN ((List.length b0o + List.length [(0 : UInt8)]) * (1 : Nat)) (140737488355328 : Nat)) (A_3 n3 (b0o ++ [(0 : UInt8)]) ob1)) (zqq N N n3 (7 : Int) b0o ob1)
def zqs (N n : Nat) (n3 : UInt64) (b0o ob1 : List UInt8) : Option (List UInt8 × Unit) :=
  zaj (fun A x => zqr N (fun n3 b0o ob1 => A (((), ((), (n3, ()))), (b0o, (ob1, ())))) x.1.2.2.1 x.2.1 x.2.2.1) n (((), ((), (n3, ()))), (b0o, (ob1, ())))
def p46 (N : Nat) (b0 : List UInt8) : Option (List UInt8 × Unit) :=
  must (leN (((0 : Nat) + List.length b0) * (1 : Nat)) (140737488355328 : Nat)) (must (leN ((List.length b0 + List.length [(128 : UInt8)]) * (1 : Nat)) (140737488355328 : Nat)) (zqs N N (hide (hide (u64I (↑b0.length : Int)) * (8 : UInt64))) (b0 ++ [(128 : UInt8)]) ([(0 : UInt8), (0 : UInt8), (0 : UInt8), (0 : UInt8), (0 : UInt8), (0 : UInt8), (0 : UInt8), (0 : UInt8), (0 : UInt8), (0 : UInt8), (0 : UInt8), (0 : UInt8), (0 : UInt8), (0 : UInt8), (0 : UInt8), (0 : UInt8), (0 : UInt8), (0 : UInt8), (0 : UInt8), (0 : UInt8), (0 : UInt8), (0 : UInt8), (0 : UInt8), (0 : UInt8), (0 : UInt8), (0 : UInt8), (0 : UInt8), (0 : UInt8), (0 : UInt8), (0 : UInt8), (0 : UInt8), (0 : UInt8)])))
def g46 (N : Nat) : Sg := sgK [(K.ro .u8)] [(K.vec .u8)] fun x => p46 N x.1
def zs6 : List (Nat × Head) := [
    (3, ⟨⟨75, [(0, .u (.c (.row 4000000))), (2, .u (.c (.ptr0 4000001 0))), (3, .u (.c (.u64)))], [(4000000, ⟨true, 0, 5, .vec .u8⟩), (4000001, ⟨false, 32, 22, .vec .u8⟩)]⟩, .exit 0⟩),
    (6, ⟨⟨75, [(0, .u (.c (.row 7000000))), (2, .u (.c (.ptr0 7000001 0))), (3, .u (.c (.u64))), (4, .u (.c (.int)))], [(7000000, ⟨true, 0, 5, .vec .u8⟩), (7000001, ⟨false, 32, 22, .vec .u8⟩)]⟩, .exit 2⟩),
    (11, ⟨⟨75, [(0, .u (.c (.row 12000000))), (2, .u (.c (.ptr0 12000001 0))), (5, .u (.c (.ptr0 12000002 0))), (6, .u (.c (.ptr0 12000003 0))), (7, .u (.c (.int)))], [(12000000, ⟨true, 0, 5, .vec .u8⟩), (12000001, ⟨false, 32, 22, .vec .u8⟩), (12000002, ⟨false, 8, 28, .vec .u32⟩), (12000003, ⟨false, 64, 172, .vec .u32⟩)]⟩, .exit 4⟩),
    (18, ⟨⟨75, [(2, .u (.c (.ptr0 19000000 0))), (5, .u (.c (.ptr0 19000001 0))), (9, .u (.c (.ptr0 19000002 0))), (10, .u (.c (.int)))], [(19000000, ⟨false, 32, 22, .vec .u8⟩), (19000001, ⟨false, 8, 28, .vec .u32⟩), (19000002, ⟨false, 32, 22, .vec .u8⟩)]⟩, .exit 6⟩)]
def zs7 (N : Nat) : List (Nat × Sg) := [(50, g50 N), (151, g151 N), (152, g152 N)]
theorem zoc (N : Nat) : zbx Try.prog pd.els (zs7 N) := ⟨zrR N, ⟨zmo N, ⟨zmu N, trivial⟩⟩⟩
theorem zrX (N : Nat) : SgOK Try.prog pd.els 46 (g46 N) :=
  zaU zbR (zan (zoc N)) Try.func46 (zav (by kernel_rfl)) [(K.ro .u8)] [(K.vec .u8)] _ N zs6 4 fun x => by kernel_rfl
def p43 (N : Nat) : Option (Bool × Unit) :=
  Option.bind (p42 N []) fun r0 => must (Nat.beq r0.1.length (32 : Nat)) (cond (hide (List.getD r0.1 (0 : Nat) (0 : UInt8) == (227 : UInt8))) (cond (hide (List.getD r0.1 (1 : Nat) (0 : UInt8) == (176 : UInt8))) (some ((hide (List.getD r0.1 (31 : Nat) (0 : UInt8) == (85 : UInt8)), ()))) (some ((false, ())))) (some ((false, ()))))
def g43 (N : Nat) : Sg := sgK [] [K.bool] fun x => p43 N
def zs8 : List (Nat × Head) := [
    ]
def zs9 (N : Nat) : List (Nat × Sg) := [(42, g42 N)]
theorem zod (N : Nat) : zbx Try.prog pd.els (zs9 N) := ⟨zpe N, trivial⟩
theorem zrY (N : Nat) : SgOK Try.prog pd.els 43 (g43 N) :=
  zaU zbR (zan (zod N)) Try.func43 (zav (by kernel_rfl)) [] [K.bool] _ N zs8 4 fun x => by kernel_rfl
def zta (N : Nat) (A_19 : Int -> (List UInt32) -> (List UInt8) -> Option (Bool × Unit)) (i9 : Int) (ob0 : List UInt32) (ob1 : List UInt8) : Option (Bool × Unit) :=
  let u1 := hide (wr ((24 : Int) - hide (wr ((8 : Int) * hide (Int.tmod i9 (4 : Int))))))
  let u2 := hide (wr (Int.tdiv i9 (4 : Int)))
  cond (hide (ltI i9 (32 : Int))) (must (leI (0 : Int) i9 && ltI i9 (↑(32 : Nat) : Int)) (must (leI (0 : Int) u2 && ltI u2 (↑(8 : Nat) : Int)) (must (leI (0 : Int) u1) (must (ltI u1 (18446744073709551616 : Int)) (cond (hide !List.getD ob1 i9.toNat (0 : UInt8) == hide (UInt8.ofNat (UInt32.toNat (hide (zbz (List.getD ob0 (Int.toNat u2) (0 : UInt32)) (UInt64.toNat (UInt64.ofNat (Int.toNat u1)))))))) (some ((false, ()))) (A_19 (hide (wr (i9 + (1 : Int)))) ob0 ob1)))))) (some ((true, ())))
def ztb (N n : Nat) (i9 : Int) (ob0 : List UInt32) (ob1 : List UInt8) : Option (Bool × Unit) :=
  zaj (fun A x => zta N (fun i9 ob0 ob1 => A (((), ((), (i9, ()))), (ob0, (ob1, ())))) x.1.2.2.1 x.2.1 x.2.2.1) n (((), ((), (i9, ()))), (ob0, (ob1, ())))
def ztc (N : Nat) (A_12 : (List UInt8) -> Int -> (List UInt8) -> (List UInt32) -> Option (Bool × Unit)) (b0 : List UInt8) (i6 : Int) (x3o : List UInt8) (ob1 : List UInt32) : Option (Bool × Unit) :=
  let u1 := wr (i6 + (64 : Int))
  cond (hide (ltI i6 (↑x3o.length : Int))) (must (leI (0 : Int) i6 && (leI i6 (hide u1) && leI (hide u1) (↑x3o.length : Int))) (Option.bind (p48 N ob1 (zae [(0 : UInt8), (0 : UInt8), (0 : UInt8), (0 : UInt8), (0 : UInt8), (0 : UInt8), (0 : UInt8), (0 : UInt8), (0 : UInt8), (0 : UInt8), (0 : UInt8), (0 : UInt8), (0 : UInt8), (0 : UInt8), (0 : UInt8), (0 : UInt8), (0 : UInt8), (0 : UInt8), (0 : UInt8), (0 : UInt8), (0 : UInt8), (0 : UInt8), (0 : UInt8), (0 : UInt8), (0 : UInt8), (0 : UInt8), (0 : UInt8), (0 : UInt8), (0 : UInt8), (0 : UInt8), (0 : UInt8), (0 : UInt8), (0 : UInt8), (0 : UInt8), (0 : UInt8), (0 : UInt8), (0 : UInt8), (0 : UInt8), (0 : UInt8), (0 : UInt8), (0 : UInt8), (0 : UInt8), (0 : UInt8), (0 : UInt8), (0 : UInt8), (0 : UInt8), (0 : UInt8), (0 : UInt8), (0 : UInt8), (0 : UInt8), (0 : UInt8), (0 : UInt8), (0 : UInt8), (0 : UInt8), (0 : UInt8), (0 : UInt8), (0 : UInt8), (0 : UInt8), (0 : UInt8), (0 : UInt8), (0 : UInt8), (0 : UInt8), (0 : UInt8), (0 : UInt8)] (Int.toNat (0 : Int)) (List.take (Int.toNat ((↑(64 : Nat) : Int) - (0 : Int))) (List.take (Int.toNat (hide u1 - i6)) (List.drop i6.toNat x3o))))) fun r1 => must (Nat.beq r1.1.length (8 : Nat)) (A_12 b0 (hide u1) x3o r1.1))) (Option.bind (p42 N b0) fun r0 => must (Nat.beq r0.1.length (32 : Nat)) (ztb N N (0 : Int) ob1 r0.1))
def ztd (N n : Nat) (b0 : List UInt8) (i6 : Int) (x3o : List UInt8) (ob1 : List UInt32) : Option (Bool × Unit) :=
  zaj (fun A x => ztc N (fun b0 i6 x3o ob1 => A ((b0, ((), ((), (i6, ())))), (x3o, (ob1, ())))) x.1.1 x.1.2.2.2.1 x.2.1 x.2.2.1) n ((b0, ((), ((), (i6, ())))), (x3o, (ob1, ())))
def b5_6 (N : Nat) (A_6 : (List UInt8) -> (List UInt8) -> Option (Bool × Unit)) (b0 x3o : List UInt8) : Option (Bool × Unit) :=
  let u1 := hide (wr ((↑b0.length : Int) * (8 : Int)))
  let u2 := u8I (hide (shrI u1 (UInt64.toNat (8 : UInt64))))
  cond (hide !eqI (hide (Int.tmod (↑x3o.length : Int) (64 : Int))) (56 : Int)) (must (leN ((List.length x3o + List.length [(0 : UInt8)]) * (1 : Nat)) (140737488355328 : Nat)) (A_6 b0 (x3o ++ [(0 : UInt8)]))) (must (leN ((List.length x3o + List.length [(0 : UInt8), (0 : UInt8), (0 : UInt8), (0 : UInt8), (0 : UInt8), (0 : UInt8), hide u2, hide (u8I u1)]) * (1 : Nat)) (140737488355328 : Nat)) (Option.bind (p50 N) fun r0 => must (Nat.beq r0.1.length (8 : Nat)) (ztd N N b0 (0 : Int) (x3o ++ [(0 : UInt8), (0 : UInt8), (0 : UInt8), (0 : UInt8), (0 : UInt8), (0 : UInt8), hide u2, hide (u8I u1)]) r0.1)))
def l5_6 (N n : Nat) (b0 x3o : List UInt8) : Option (Bool × Unit) :=
  zaj (fun A x => b5_6 N (fun b0 x3o => A ((b0, ((), ())), (x3o, ()))) x.1.1 x.2.1) n ((b0, ((), ())), (x3o, ()))
def p5 (N : Nat) (b0 : List UInt8) : Option (Bool × Unit) :=
  Option.bind (p43 N) fun r0 => cond (hide !r0.1) (some ((false, ()))) (cond (hide (ltI (400 : Int) (↑b0.length : Int))) (some ((true, ()))) (must (leN (((0 : Nat) + List.length b0) * (1 : Nat)) (140737488355328 : Nat)) (must (leN ((List.length b0 + List.length [(128 : UInt8)]) * (1 : Nat)) (140737488355328 : Nat)) (l5_6 N N b0 (b0 ++ [(128 : UInt8)])))))
def g5 (N : Nat) : Sg := sgK [(K.ro .u8)] [K.bool] fun x => p5 N x.1
end
section
def p6 (N : Nat) (a0 m1 : List UInt64) : Option (Bool × Unit) :=
  Option.bind (p51 N) fun r0 => cond (hide !r0.1) (some ((false, ()))) (cond (hide (ltI (24 : Int) (↑a0.length : Int))) (some ((true, ()))) (cond (hide (ltI (12 : Int) (↑m1.length : Int))) (some ((true, ()))) (Option.bind (p52 N a0 m1) fun r1 => Option.bind (p53 N a0 m1) fun r2 => cond (hide (eqI (r1.2.1) (r2.2.1))) (Option.bind (p54 N r1.1 r2.1) fun r3 => some ((Prod.fst r3, ()))) (some ((false, ()))))))
def g6 (N : Nat) : Sg := sgK [(K.ro .u64), (K.ro .u64)] [K.bool] fun x => p6 N x.1 x.2.1
end
end Go.Proofs.Ytgimohchocjgcaa.V
