/- What the program's functions compute, as plain functions; each one's contract. Printed by a program of this work. -/
import Derived.Test.YtgimohchocjgcaaVTL
import Derived.KernelRfl
set_option linter.unusedVariables false
set_option linter.unusedSimpArgs false
namespace Go.Proofs.Ytgimohchocjgcaa.V

/-! #### 211 -/

def p211 (N : Nat) (x0 : UInt32) (k1 : Int) : Option (UInt32 × Unit) :=
  some ((hide (hide (shl32 x0 (UInt64.toNat (hide (hide (u64I k1) &&& (31 : UInt64))))) ||| hide (shr32 x0 (UInt64.toNat (hide ((32 : UInt64) - hide (hide (u64I k1) &&& (31 : UInt64))))))), ()))

def g211 (N : Nat) : Sg := sgK [K.u32, K.int] [K.u32] fun x => p211 N x.1 x.2.1

def tab211 : List (Nat × Head) := [
    ]

def env211 (N : Nat) : List (Nat × Sg) := []

theorem env211_ok (N : Nat) : EnvOK Try.prog pd.els (env211 N) := trivial

theorem g211_ok (N : Nat) : SgOK Try.prog pd.els 211 (g211 N) :=
  sgK_ok pd_ok (env_look (env211_ok N)) Try.func211 (name_ne (by kernel_rfl)) [K.u32, K.int] [K.u32] _ N tab211 4 fun x => by kernel_rfl

/-! #### 155 -/

def p155 (N : Nat) (x0 : UInt32) (a1 : Int) (b2 : Int) (c3 : Int) : Option (UInt32 × Unit) :=
  Option.bind (p211 N x0 (hide (wr ((0 : Int) - a1)))) fun r0 => Option.bind (p211 N x0 (hide (wr ((0 : Int) - b2)))) fun r1 => Option.bind (p211 N x0 (hide (wr ((0 : Int) - c3)))) fun r2 => some ((hide (hide (Prod.fst r0 ^^^ Prod.fst r1) ^^^ Prod.fst r2), ()))

def g155 (N : Nat) : Sg := sgK [K.u32, K.int, K.int, K.int] [K.u32] fun x => p155 N x.1 x.2.1 x.2.2.1 x.2.2.2.1

def tab155 : List (Nat × Head) := [
    ]

def env155 (N : Nat) : List (Nat × Sg) := [(211, g211 N)]

theorem env155_ok (N : Nat) : EnvOK Try.prog pd.els (env155 N) := ⟨g211_ok N, trivial⟩

theorem g155_ok (N : Nat) : SgOK Try.prog pd.els 155 (g155 N) :=
  sgK_ok pd_ok (env_look (env155_ok N)) Try.func155 (name_ne (by kernel_rfl)) [K.u32, K.int, K.int, K.int] [K.u32] _ N tab155 4 fun x => by kernel_rfl

/-! #### 210 -/

def p210 (N : Nat) (x0 : UInt32) (a1 : Int) (b2 : Int) (c3 : Int) : Option (UInt32 × Unit) :=
  Option.bind (p211 N x0 (hide (wr ((0 : Int) - a1)))) fun r0 => Option.bind (p211 N x0 (hide (wr ((0 : Int) - b2)))) fun r1 => some ((hide (hide (Prod.fst r0 ^^^ Prod.fst r1) ^^^ hide (shr32 x0 (UInt64.toNat (hide (u64I c3))))), ()))

def g210 (N : Nat) : Sg := sgK [K.u32, K.int, K.int, K.int] [K.u32] fun x => p210 N x.1 x.2.1 x.2.2.1 x.2.2.2.1

def tab210 : List (Nat × Head) := [
    ]

def env210 (N : Nat) : List (Nat × Sg) := [(211, g211 N)]

theorem env210_ok (N : Nat) : EnvOK Try.prog pd.els (env210 N) := ⟨g211_ok N, trivial⟩

theorem g210_ok (N : Nat) : SgOK Try.prog pd.els 210 (g210 N) :=
  sgK_ok pd_ok (env_look (env210_ok N)) Try.func210 (name_ne (by kernel_rfl)) [K.u32, K.int, K.int, K.int] [K.u32] _ N tab210 4 fun x => by kernel_rfl

/-! #### 149 -/

def p149 (N : Nat) : Option (List UInt32 × Unit) :=
  some (([(1779033703 : UInt32), (3144134277 : UInt32), (1013904242 : UInt32), (2773480762 : UInt32), (1359893119 : UInt32), (2600822924 : UInt32), (528734635 : UInt32), (1541459225 : UInt32)], ()))

def g149 (N : Nat) : Sg := sgK [] [(K.vec .u32)] fun x => p149 N 

def tab149 : List (Nat × Head) := [
    ]

def env149 (N : Nat) : List (Nat × Sg) := []

theorem env149_ok (N : Nat) : EnvOK Try.prog pd.els (env149 N) := trivial

theorem g149_ok (N : Nat) : SgOK Try.prog pd.els 149 (g149 N) :=
  sgK_ok pd_ok (env_look (env149_ok N)) Try.func149 (name_ne (by kernel_rfl)) [] [(K.vec .u32)] _ N tab149 4 fun x => by kernel_rfl

/-! #### 150 -/

def b150_6 (N : Nat) (A_6 : UInt64 → Int → (List UInt8) → Option (List UInt8 × Unit)) (n4 : UInt64) (shift5 : Int) (out3o : List UInt8) : Option (List UInt8 × Unit) :=
  cond (hide (leI (0 : Int) shift5)) (must (leN ((List.length out3o + List.length [hide (UInt8.ofNat (UInt64.toNat (hide (shr64 n4 (UInt64.toNat (hide (u64I shift5)))))))]) * (1 : Nat)) (140737488355328 : Nat)) (A_6 n4 (hide (wr (shift5 - (8 : Int)))) (out3o ++ [hide (UInt8.ofNat (UInt64.toNat (hide (shr64 n4 (UInt64.toNat (hide (u64I shift5)))))))]))) (some ((out3o, ())))

def l150_6 (N : Nat) (n : Nat) (n4 : UInt64) (shift5 : Int) (out3o : List UInt8) : Option (List UInt8 × Unit) :=
  loopN (fun A x => b150_6 N (fun n4 shift5 out3o => A (((), (n4, (shift5, ()))), (out3o, ()))) x.1.2.1 x.1.2.2.1 x.2.1) n (((), (n4, (shift5, ()))), (out3o, ()))

theorem l150_6_zero (N : Nat) (n4 : UInt64) (shift5 : Int) (out3o : List UInt8) : l150_6 N 0 n4 shift5 out3o = none := rfl

theorem l150_6_succ (N : Nat) (n : Nat) (n4 : UInt64) (shift5 : Int) (out3o : List UInt8) : l150_6 N (n + 1) n4 shift5 out3o = b150_6 N (l150_6 N n) n4 shift5 out3o := rfl

def b150_2 (N : Nat) (A_2 : (List UInt8) → (List UInt8) → Option (List UInt8 × Unit)) (b0 : List UInt8) (out3o : List UInt8) : Option (List UInt8 × Unit) :=
  cond (hide !eqI (hide (Int.tmod (↑(List.length out3o) : Int) (64 : Int))) (56 : Int)) (must (leN ((List.length out3o + List.length [(0 : UInt8)]) * (1 : Nat)) (140737488355328 : Nat)) (A_2 b0 (out3o ++ [(0 : UInt8)]))) (l150_6 N N (hide (hide (u64I (↑(List.length b0) : Int)) * (8 : UInt64))) ((56 : Int)) out3o)

def l150_2 (N : Nat) (n : Nat) (b0 : List UInt8) (out3o : List UInt8) : Option (List UInt8 × Unit) :=
  loopN (fun A x => b150_2 N (fun b0 out3o => A ((b0, ((), ())), (out3o, ()))) x.1.1 x.2.1) n ((b0, ((), ())), (out3o, ()))

theorem l150_2_zero (N : Nat) (b0 : List UInt8) (out3o : List UInt8) : l150_2 N 0 b0 out3o = none := rfl

theorem l150_2_succ (N : Nat) (n : Nat) (b0 : List UInt8) (out3o : List UInt8) : l150_2 N (n + 1) b0 out3o = b150_2 N (l150_2 N n) b0 out3o := rfl

def p150 (N : Nat) (b0 : List UInt8) : Option (List UInt8 × Unit) :=
  must (leN (((0 : Nat) + List.length b0) * (1 : Nat)) (140737488355328 : Nat)) (must (leN ((List.length b0 + List.length [(128 : UInt8)]) * (1 : Nat)) (140737488355328 : Nat)) (l150_2 N N b0 (b0 ++ [(128 : UInt8)])))

def g150 (N : Nat) : Sg := sgK [(K.ro .u8)] [(K.ro .u8)] fun x => p150 N x.1

def tab150 : List (Nat × Head) := [
    (2, ⟨⟨35, [(0, .u (.c (.ro .u8))), (3, .u (.c (.row 3000000)))], [(3000000, ⟨true, 0, 5, .vec .u8⟩)]⟩, .exit 0⟩),
    (6, ⟨⟨35, [(3, .u (.c (.row 7000000))), (4, .u (.c (.u64))), (5, .u (.c (.int)))], [(7000000, ⟨true, 0, 5, .vec .u8⟩)]⟩, .exit 2⟩)]

def env150 (N : Nat) : List (Nat × Sg) := []

theorem env150_ok (N : Nat) : EnvOK Try.prog pd.els (env150 N) := trivial

theorem g150_ok (N : Nat) : SgOK Try.prog pd.els 150 (g150 N) :=
  sgK_ok pd_ok (env_look (env150_ok N)) Try.func150 (name_ne (by kernel_rfl)) [(K.ro .u8)] [(K.ro .u8)] _ N tab150 4 fun x => by kernel_rfl

/-! #### 154 -/

def p154 (N : Nat) : Option (List UInt32 × Unit) :=
  some (([(1116352408 : UInt32), (1899447441 : UInt32), (3049323471 : UInt32), (3921009573 : UInt32), (961987163 : UInt32), (1508970993 : UInt32), (2453635748 : UInt32), (2870763221 : UInt32), (3624381080 : UInt32), (310598401 : UInt32), (607225278 : UInt32), (1426881987 : UInt32), (1925078388 : UInt32), (2162078206 : UInt32), (2614888103 : UInt32), (3248222580 : UInt32), (3835390401 : UInt32), (4022224774 : UInt32), (264347078 : UInt32), (604807628 : UInt32), (770255983 : UInt32), (1249150122 : UInt32), (1555081692 : UInt32), (1996064986 : UInt32), (2554220882 : UInt32), (2821834349 : UInt32), (2952996808 : UInt32), (3210313671 : UInt32), (3336571891 : UInt32), (3584528711 : UInt32), (113926993 : UInt32), (338241895 : UInt32), (666307205 : UInt32), (773529912 : UInt32), (1294757372 : UInt32), (1396182291 : UInt32), (1695183700 : UInt32), (1986661051 : UInt32), (2177026350 : UInt32), (2456956037 : UInt32), (2730485921 : UInt32), (2820302411 : UInt32), (3259730800 : UInt32), (3345764771 : UInt32), (3516065817 : UInt32), (3600352804 : UInt32), (4094571909 : UInt32), (275423344 : UInt32), (430227734 : UInt32), (506948616 : UInt32), (659060556 : UInt32), (883997877 : UInt32), (958139571 : UInt32), (1322822218 : UInt32), (1537002063 : UInt32), (1747873779 : UInt32), (1955562222 : UInt32), (2024104815 : UInt32), (2227730452 : UInt32), (2361852424 : UInt32), (2428436474 : UInt32), (2756734187 : UInt32), (3204031479 : UInt32), (3329325298 : UInt32)], ()))

def g154 (N : Nat) : Sg := sgK [] [(K.vec .u32)] fun x => p154 N 

def tab154 : List (Nat × Head) := [
    ]

def env154 (N : Nat) : List (Nat × Sg) := []

theorem env154_ok (N : Nat) : EnvOK Try.prog pd.els (env154 N) := trivial

theorem g154_ok (N : Nat) : SgOK Try.prog pd.els 154 (g154 N) :=
  sgK_ok pd_ok (env_look (env154_ok N)) Try.func154 (name_ne (by kernel_rfl)) [] [(K.vec .u32)] _ N tab154 4 fun x => by kernel_rfl

/-! #### 153 -/

def b153_12 (N : Nat) (A_12 : Int → (List UInt32) → (List UInt32) → Option (List UInt32 × Unit)) (i7 : Int) (ob0 : List UInt32) (ob1 : List UInt32) : Option (List UInt32 × Unit) :=
  cond (hide (ltI i7 (64 : Int))) (must (leI (0 : Int) (hide (wr (i7 - (16 : Int)))) && ltI (hide (wr (i7 - (16 : Int)))) (↑(64 : Nat) : Int)) (must (leI (0 : Int) (hide (wr (i7 - (15 : Int)))) && ltI (hide (wr (i7 - (15 : Int)))) (↑(64 : Nat) : Int)) (Option.bind (p210 N (List.getD ob1 (Int.toNat (hide (wr (i7 - (15 : Int))))) (0 : UInt32)) ((7 : Int)) ((18 : Int)) ((3 : Int))) fun r0 => must (leI (0 : Int) (hide (wr (i7 - (7 : Int)))) && ltI (hide (wr (i7 - (7 : Int)))) (↑(64 : Nat) : Int)) (must (leI (0 : Int) (hide (wr (i7 - (2 : Int)))) && ltI (hide (wr (i7 - (2 : Int)))) (↑(64 : Nat) : Int)) (Option.bind (p210 N (List.getD ob1 (Int.toNat (hide (wr (i7 - (2 : Int))))) (0 : UInt32)) ((17 : Int)) ((19 : Int)) ((10 : Int))) fun r1 => must (leI (0 : Int) i7 && ltI i7 (↑(64 : Nat) : Int)) (A_12 (hide (wr (i7 + (1 : Int)))) ob0 (setL ob1 (Int.toNat i7) (hide (hide (hide (List.getD ob1 (Int.toNat (hide (wr (i7 - (16 : Int))))) (0 : UInt32) + Prod.fst r0) + List.getD ob1 (Int.toNat (hide (wr (i7 - (7 : Int))))) (0 : UInt32)) + Prod.fst r1))))))))) (must (Nat.beq (List.length ob1) (64 : Nat)) (some ((ob1, ()))))

def l153_12 (N : Nat) (n : Nat) (i7 : Int) (ob0 : List UInt32) (ob1 : List UInt32) : Option (List UInt32 × Unit) :=
  loopN (fun A x => b153_12 N (fun i7 ob0 ob1 => A (((), ((), (i7, ()))), (ob0, (ob1, ())))) x.1.2.2.1 x.2.1 x.2.2.1) n (((), ((), (i7, ()))), (ob0, (ob1, ())))

theorem l153_12_zero (N : Nat) (i7 : Int) (ob0 : List UInt32) (ob1 : List UInt32) : l153_12 N 0 i7 ob0 ob1 = none := rfl

theorem l153_12_succ (N : Nat) (n : Nat) (i7 : Int) (ob0 : List UInt32) (ob1 : List UInt32) : l153_12 N (n + 1) i7 ob0 ob1 = b153_12 N (l153_12 N n) i7 ob0 ob1 := rfl

def b153_6 (N : Nat) (A_3 : Int → (List UInt8) → (List UInt32) → (List UInt32) → Option (List UInt32 × Unit)) (A_6 : Int → Int → Nat → Nat → Int → Int → (List UInt8) → (List UInt32) → (List UInt32) → Option (List UInt32 × Unit)) (i4 : Int) (t8 : Int) (t16f : Nat) (t16n : Nat) (t17 : Int) (t18 : Int) (t16o : List UInt8) (ob1 : List UInt32) (ob2 : List UInt32) : Option (List UInt32 × Unit) :=
  cond (hide (ltI t18 t17)) (must (leI (0 : Int) t18 && ltI t18 (↑t16n : Int)) (must (leI (0 : Int) i4 && ltI i4 (↑(64 : Nat) : Int)) (must (leI (0 : Int) i4 && ltI i4 (↑(64 : Nat) : Int)) (A_6 i4 t8 t16f t16n t17 (hide (wr (t18 + (1 : Int)))) t16o ob1 (setL ob2 (Int.toNat i4) (hide (hide (shl32 (List.getD ob2 (Int.toNat i4) (0 : UInt32)) (UInt64.toNat (8 : UInt64))) ||| hide (UInt32.ofNat (UInt8.toNat (List.getD t16o (t16f + Int.toNat t18) (0 : UInt8))))))))))) (A_3 (hide (wr (t8 + (1 : Int)))) t16o ob1 ob2)

def l153_6 (N : Nat) (A_3 : Int → (List UInt8) → (List UInt32) → (List UInt32) → Option (List UInt32 × Unit)) (n : Nat) (i4 : Int) (t8 : Int) (t16f : Nat) (t16n : Nat) (t17 : Int) (t18 : Int) (t16o : List UInt8) (ob1 : List UInt32) (ob2 : List UInt32) : Option (List UInt32 × Unit) :=
  loopN (fun A x => b153_6 N A_3 (fun i4 t8 t16f t16n t17 t18 t16o ob1 ob2 => A (((), ((), ((), (i4, (t8, ((t16f, t16n), (t17, (t18, ())))))))), (t16o, (ob1, (ob2, ()))))) x.1.2.2.2.1 x.1.2.2.2.2.1 x.1.2.2.2.2.2.1.1 x.1.2.2.2.2.2.1.2 x.1.2.2.2.2.2.2.1 x.1.2.2.2.2.2.2.2.1 x.2.1 x.2.2.1 x.2.2.2.1) n (((), ((), ((), (i4, (t8, ((t16f, t16n), (t17, (t18, ())))))))), (t16o, (ob1, (ob2, ()))))

theorem l153_6_zero (N : Nat) (A_3 : Int → (List UInt8) → (List UInt32) → (List UInt32) → Option (List UInt32 × Unit)) (i4 : Int) (t8 : Int) (t16f : Nat) (t16n : Nat) (t17 : Int) (t18 : Int) (t16o : List UInt8) (ob1 : List UInt32) (ob2 : List UInt32) : l153_6 N A_3 0 i4 t8 t16f t16n t17 t18 t16o ob1 ob2 = none := rfl

theorem l153_6_succ (N : Nat) (A_3 : Int → (List UInt8) → (List UInt32) → (List UInt32) → Option (List UInt32 × Unit)) (n : Nat) (i4 : Int) (t8 : Int) (t16f : Nat) (t16n : Nat) (t17 : Int) (t18 : Int) (t16o : List UInt8) (ob1 : List UInt32) (ob2 : List UInt32) : l153_6 N A_3 (n + 1) i4 t8 t16f t16n t17 t18 t16o ob1 ob2 = b153_6 N A_3 (l153_6 N A_3 n) i4 t8 t16f t16n t17 t18 t16o ob1 ob2 := rfl

def b153_3 (N : Nat) (A_3 : Int → (List UInt8) → (List UInt32) → (List UInt32) → Option (List UInt32 × Unit)) (t8 : Int) (ob0 : List UInt8) (ob1 : List UInt32) (ob2 : List UInt32) : Option (List UInt32 × Unit) :=
  cond (hide (ltI t8 (16 : Int))) (must (leI (0 : Int) (hide (wr ((4 : Int) * t8))) && (leI (hide (wr ((4 : Int) * t8))) (hide (wr (hide (wr ((4 : Int) * t8)) + (4 : Int)))) && leI (hide (wr (hide (wr ((4 : Int) * t8)) + (4 : Int)))) (↑(64 : Nat) : Int))) (l153_6 N A_3 N t8 t8 (Int.toNat (hide (wr ((4 : Int) * t8)))) (Int.toNat (hide (wr (hide (wr ((4 : Int) * t8)) + (4 : Int))) - hide (wr ((4 : Int) * t8)))) ((↑(Int.toNat (hide (wr (hide (wr ((4 : Int) * t8)) + (4 : Int))) - hide (wr ((4 : Int) * t8)))) : Int)) ((0 : Int)) ob0 ob1 ob2)) (l153_12 N N ((16 : Int)) ob1 ob2)

def l153_3 (N : Nat) (n : Nat) (t8 : Int) (ob0 : List UInt8) (ob1 : List UInt32) (ob2 : List UInt32) : Option (List UInt32 × Unit) :=
  loopN (fun A x => b153_3 N (fun t8 ob0 ob1 ob2 => A (((), ((), ((), (t8, ())))), (ob0, (ob1, (ob2, ()))))) x.1.2.2.2.1 x.2.1 x.2.2.1 x.2.2.2.1) n (((), ((), ((), (t8, ())))), (ob0, (ob1, (ob2, ()))))

theorem l153_3_zero (N : Nat) (t8 : Int) (ob0 : List UInt8) (ob1 : List UInt32) (ob2 : List UInt32) : l153_3 N 0 t8 ob0 ob1 ob2 = none := rfl

theorem l153_3_succ (N : Nat) (n : Nat) (t8 : Int) (ob0 : List UInt8) (ob1 : List UInt32) (ob2 : List UInt32) : l153_3 N (n + 1) t8 ob0 ob1 ob2 = b153_3 N (l153_3 N n) t8 ob0 ob1 ob2 := rfl

def p153 (N : Nat) (b0 : List UInt8) : Option (List UInt32 × Unit) :=
  must (Nat.beq (List.length b0) (64 : Nat)) (l153_3 N N ((0 : Int)) b0 ([(0 : UInt32), (0 : UInt32), (0 : UInt32), (0 : UInt32), (0 : UInt32), (0 : UInt32), (0 : UInt32), (0 : UInt32), (0 : UInt32), (0 : UInt32), (0 : UInt32), (0 : UInt32), (0 : UInt32), (0 : UInt32), (0 : UInt32), (0 : UInt32), (0 : UInt32), (0 : UInt32), (0 : UInt32), (0 : UInt32), (0 : UInt32), (0 : UInt32), (0 : UInt32), (0 : UInt32), (0 : UInt32), (0 : UInt32), (0 : UInt32), (0 : UInt32), (0 : UInt32), (0 : UInt32), (0 : UInt32), (0 : UInt32), (0 : UInt32), (0 : UInt32), (0 : UInt32), (0 : UInt32), (0 : UInt32), (0 : UInt32), (0 : UInt32), (0 : UInt32), (0 : UInt32), (0 : UInt32), (0 : UInt32), (0 : UInt32), (0 : UInt32), (0 : UInt32), (0 : UInt32), (0 : UInt32), (0 : UInt32), (0 : UInt32), (0 : UInt32), (0 : UInt32), (0 : UInt32), (0 : UInt32), (0 : UInt32), (0 : UInt32), (0 : UInt32), (0 : UInt32), (0 : UInt32), (0 : UInt32), (0 : UInt32), (0 : UInt32), (0 : UInt32), (0 : UInt32)]) ([(0 : UInt32), (0 : UInt32), (0 : UInt32), (0 : UInt32), (0 : UInt32), (0 : UInt32), (0 : UInt32), (0 : UInt32), (0 : UInt32), (0 : UInt32), (0 : UInt32), (0 : UInt32), (0 : UInt32), (0 : UInt32), (0 : UInt32), (0 : UInt32), (0 : UInt32), (0 : UInt32), (0 : UInt32), (0 : UInt32), (0 : UInt32), (0 : UInt32), (0 : UInt32), (0 : UInt32), (0 : UInt32), (0 : UInt32), (0 : UInt32), (0 : UInt32), (0 : UInt32), (0 : UInt32), (0 : UInt32), (0 : UInt32), (0 : UInt32), (0 : UInt32), (0 : UInt32), (0 : UInt32), (0 : UInt32), (0 : UInt32), (0 : UInt32), (0 : UInt32), (0 : UInt32), (0 : UInt32), (0 : UInt32), (0 : UInt32), (0 : UInt32), (0 : UInt32), (0 : UInt32), (0 : UInt32), (0 : UInt32), (0 : UInt32), (0 : UInt32), (0 : UInt32), (0 : UInt32), (0 : UInt32), (0 : UInt32), (0 : UInt32), (0 : UInt32), (0 : UInt32), (0 : UInt32), (0 : UInt32), (0 : UInt32), (0 : UInt32), (0 : UInt32), (0 : UInt32)]))

def g153 (N : Nat) : Sg := sgK [(K.vec .u8)] [(K.vec .u32)] fun x => p153 N x.1

def tab153 : List (Nat × Head) := [
    (3, ⟨⟨61, [(1, .u (.c (.ptr0 4000000 0))), (2, .u (.c (.ptr0 4000001 0))), (3, .u (.c (.ptr0 4000002 0))), (8, .u (.c (.int)))], [(4000000, ⟨false, 64, 29, .vec .u8⟩), (4000001, ⟨false, 64, 172, .vec .u32⟩), (4000002, ⟨false, 64, 172, .vec .u32⟩)]⟩, .exit 0⟩),
    (12, ⟨⟨61, [(2, .u (.c (.ptr0 13000000 0))), (3, .u (.c (.ptr0 13000001 0))), (7, .u (.c (.int)))], [(13000000, ⟨false, 64, 172, .vec .u32⟩), (13000001, ⟨false, 64, 172, .vec .u32⟩)]⟩, .exit 4⟩),
    (6, ⟨⟨61, [(1, .u (.c (.ptr0 7000000 0))), (2, .u (.c (.ptr0 7000001 0))), (3, .u (.c (.ptr0 7000002 0))), (4, .u (.c (.int))), (8, .u (.c (.int))), (16, .u (.c (.sl 7000000))), (17, .u (.c (.int))), (18, .u (.c (.int)))], [(7000000, ⟨false, 64, 29, .vec .u8⟩), (7000001, ⟨false, 64, 172, .vec .u32⟩), (7000002, ⟨false, 64, 172, .vec .u32⟩)]⟩, .exit 2⟩)]

def env153 (N : Nat) : List (Nat × Sg) := [(210, g210 N)]

theorem env153_ok (N : Nat) : EnvOK Try.prog pd.els (env153 N) := ⟨g210_ok N, trivial⟩

theorem g153_ok (N : Nat) : SgOK Try.prog pd.els 153 (g153 N) :=
  sgK_ok pd_ok (env_look (env153_ok N)) Try.func153 (name_ne (by kernel_rfl)) [(K.vec .u8)] [(K.vec .u32)] _ N tab153 4 fun x => by kernel_rfl

/-! #### 48 -/

def b48_9 (N : Nat) (A_9 : (List UInt32) → Int → (List UInt32) → (List UInt32) → Option (List UInt32 × Unit)) (t89 : List UInt32) (t90 : Int) (ob0 : List UInt32) (ob1 : List UInt32) : Option (List UInt32 × Unit) :=
  cond (hide (ltI t90 (8 : Int))) (must (leI (0 : Int) t90 && (ltI t90 (↑(8 : Nat) : Int) && ltI t90 (↑(List.length t89) : Int))) (must (leI (0 : Int) t90 && ltI t90 (↑(8 : Nat) : Int)) (must (leI (0 : Int) t90 && ltI t90 (↑(8 : Nat) : Int)) (A_9 t89 (hide (wr (t90 + (1 : Int)))) (setL ob0 (Int.toNat t90) (hide (List.getD ob0 (Int.toNat t90) (0 : UInt32) + List.getD t89 (Int.toNat t90) (0 : UInt32)))) ob1)))) (must (Nat.beq (List.length ob0) (8 : Nat)) (some ((ob0, ()))))

def l48_9 (N : Nat) (n : Nat) (t89 : List UInt32) (t90 : Int) (ob0 : List UInt32) (ob1 : List UInt32) : Option (List UInt32 × Unit) :=
  loopN (fun A x => b48_9 N (fun t89 t90 ob0 ob1 => A (((), ((), (t89, (t90, ())))), (ob0, (ob1, ())))) x.1.2.2.1 x.1.2.2.2.1 x.2.1 x.2.2.1) n (((), ((), (t89, (t90, ())))), (ob0, (ob1, ())))

theorem l48_9_zero (N : Nat) (t89 : List UInt32) (t90 : Int) (ob0 : List UInt32) (ob1 : List UInt32) : l48_9 N 0 t89 t90 ob0 ob1 = none := rfl

theorem l48_9_succ (N : Nat) (n : Nat) (t89 : List UInt32) (t90 : Int) (ob0 : List UInt32) (ob1 : List UInt32) : l48_9 N (n + 1) t89 t90 ob0 ob1 = b48_9 N (l48_9 N n) t89 t90 ob0 ob1 := rfl

def b48_1000 (N : Nat) (A_1000 : Int → (List UInt32) → (List UInt32) → (List UInt32) → (List UInt32) → (List UInt32) → Option (List UInt32 × Unit)) (i8 : Int) (ob0 : List UInt32) (ob1 : List UInt32) (ob2 : List UInt32) (ob3 : List UInt32) (ob4 : List UInt32) : Option (List UInt32 × Unit) :=
  Option.bind (p155 N (List.getD ob4 (4 : Nat) (0 : UInt32)) ((6 : Int)) ((11 : Int)) ((25 : Int))) fun r0 => must (leI (0 : Int) i8 && ltI i8 (↑(64 : Nat) : Int)) (must (leI (0 : Int) i8 && ltI i8 (↑(64 : Nat) : Int)) (Option.bind (p155 N (List.getD ob4 (0 : Nat) (0 : UInt32)) ((2 : Int)) ((13 : Int)) ((22 : Int))) fun r1 => cond (hide (ltI (hide (wr (i8 + (1 : Int)))) (64 : Int))) (A_1000 (hide (wr (i8 + (1 : Int)))) ob0 ob1 ob2 ob3 ([hide (hide (hide (hide (hide (List.getD ob4 (7 : Nat) (0 : UInt32) + Prod.fst r0) + hide (hide (List.getD ob4 (4 : Nat) (0 : UInt32) &&& List.getD ob4 (5 : Nat) (0 : UInt32)) ^^^ hide (hide (~~~List.getD ob4 (4 : Nat) (0 : UInt32)) &&& List.getD ob4 (6 : Nat) (0 : UInt32)))) + List.getD ob3 (Int.toNat i8) (0 : UInt32)) + List.getD ob2 (Int.toNat i8) (0 : UInt32)) + hide (Prod.fst r1 + hide (hide (hide (List.getD ob4 (0 : Nat) (0 : UInt32) &&& List.getD ob4 (1 : Nat) (0 : UInt32)) ^^^ hide (List.getD ob4 (0 : Nat) (0 : UInt32) &&& List.getD ob4 (2 : Nat) (0 : UInt32))) ^^^ hide (List.getD ob4 (1 : Nat) (0 : UInt32) &&& List.getD ob4 (2 : Nat) (0 : UInt32))))), List.getD ob4 (0 : Nat) (0 : UInt32), List.getD ob4 (1 : Nat) (0 : UInt32), List.getD ob4 (2 : Nat) (0 : UInt32), hide (List.getD ob4 (3 : Nat) (0 : UInt32) + hide (hide (hide (hide (List.getD ob4 (7 : Nat) (0 : UInt32) + Prod.fst r0) + hide (hide (List.getD ob4 (4 : Nat) (0 : UInt32) &&& List.getD ob4 (5 : Nat) (0 : UInt32)) ^^^ hide (hide (~~~List.getD ob4 (4 : Nat) (0 : UInt32)) &&& List.getD ob4 (6 : Nat) (0 : UInt32)))) + List.getD ob3 (Int.toNat i8) (0 : UInt32)) + List.getD ob2 (Int.toNat i8) (0 : UInt32))), List.getD ob4 (4 : Nat) (0 : UInt32), List.getD ob4 (5 : Nat) (0 : UInt32), List.getD ob4 (6 : Nat) (0 : UInt32)])) (l48_9 N N ([hide (hide (hide (hide (hide (List.getD ob4 (7 : Nat) (0 : UInt32) + Prod.fst r0) + hide (hide (List.getD ob4 (4 : Nat) (0 : UInt32) &&& List.getD ob4 (5 : Nat) (0 : UInt32)) ^^^ hide (hide (~~~List.getD ob4 (4 : Nat) (0 : UInt32)) &&& List.getD ob4 (6 : Nat) (0 : UInt32)))) + List.getD ob3 (Int.toNat i8) (0 : UInt32)) + List.getD ob2 (Int.toNat i8) (0 : UInt32)) + hide (Prod.fst r1 + hide (hide (hide (List.getD ob4 (0 : Nat) (0 : UInt32) &&& List.getD ob4 (1 : Nat) (0 : UInt32)) ^^^ hide (List.getD ob4 (0 : Nat) (0 : UInt32) &&& List.getD ob4 (2 : Nat) (0 : UInt32))) ^^^ hide (List.getD ob4 (1 : Nat) (0 : UInt32) &&& List.getD ob4 (2 : Nat) (0 : UInt32))))), List.getD ob4 (0 : Nat) (0 : UInt32), List.getD ob4 (1 : Nat) (0 : UInt32), List.getD ob4 (2 : Nat) (0 : UInt32), hide (List.getD ob4 (3 : Nat) (0 : UInt32) + hide (hide (hide (hide (List.getD ob4 (7 : Nat) (0 : UInt32) + Prod.fst r0) + hide (hide (List.getD ob4 (4 : Nat) (0 : UInt32) &&& List.getD ob4 (5 : Nat) (0 : UInt32)) ^^^ hide (hide (~~~List.getD ob4 (4 : Nat) (0 : UInt32)) &&& List.getD ob4 (6 : Nat) (0 : UInt32)))) + List.getD ob3 (Int.toNat i8) (0 : UInt32)) + List.getD ob2 (Int.toNat i8) (0 : UInt32))), List.getD ob4 (4 : Nat) (0 : UInt32), List.getD ob4 (5 : Nat) (0 : UInt32), List.getD ob4 (6 : Nat) (0 : UInt32)]) ((0 : Int)) ob0 ob1)))

def l48_1000 (N : Nat) (n : Nat) (i8 : Int) (ob0 : List UInt32) (ob1 : List UInt32) (ob2 : List UInt32) (ob3 : List UInt32) (ob4 : List UInt32) : Option (List UInt32 × Unit) :=
  loopN (fun A x => b48_1000 N (fun i8 ob0 ob1 ob2 ob3 ob4 => A (((), ((), ((), ((), ((), (i8, ())))))), (ob0, (ob1, (ob2, (ob3, (ob4, ()))))))) x.1.2.2.2.2.2.1 x.2.1 x.2.2.1 x.2.2.2.1 x.2.2.2.2.1 x.2.2.2.2.2.1) n (((), ((), ((), ((), ((), (i8, ())))))), (ob0, (ob1, (ob2, (ob3, (ob4, ()))))))

theorem l48_1000_zero (N : Nat) (i8 : Int) (ob0 : List UInt32) (ob1 : List UInt32) (ob2 : List UInt32) (ob3 : List UInt32) (ob4 : List UInt32) : l48_1000 N 0 i8 ob0 ob1 ob2 ob3 ob4 = none := rfl

theorem l48_1000_succ (N : Nat) (n : Nat) (i8 : Int) (ob0 : List UInt32) (ob1 : List UInt32) (ob2 : List UInt32) (ob3 : List UInt32) (ob4 : List UInt32) : l48_1000 N (n + 1) i8 ob0 ob1 ob2 ob3 ob4 = b48_1000 N (l48_1000 N n) i8 ob0 ob1 ob2 ob3 ob4 := rfl

def p48 (N : Nat) (h0 : List UInt32) (b1 : List UInt8) : Option (List UInt32 × Unit) :=
  must (Nat.beq (List.length h0) (8 : Nat)) (must (Nat.beq (List.length b1) (64 : Nat)) (Option.bind (p153 N b1) fun r0 => Option.bind (p154 N) fun r1 => must (Nat.beq (List.length (Prod.fst r0)) (64 : Nat)) (must (Nat.beq (List.length (Prod.fst r1)) (64 : Nat)) (must (Nat.beq (List.length h0) (8 : Nat)) (l48_1000 N N ((0 : Int)) h0 ([(0 : UInt32), (0 : UInt32), (0 : UInt32), (0 : UInt32), (0 : UInt32), (0 : UInt32), (0 : UInt32), (0 : UInt32)]) (Prod.fst r0) (Prod.fst r1) h0)))))

def g48 (N : Nat) : Sg := sgK [(K.vec .u32), (K.vec .u8)] [(K.vec .u32)] fun x => p48 N x.1 x.2.1

def tab48 : List (Nat × Head) := [
    (1000, ⟨⟨102, [(2, .u (.c (.ptr0 1001000000 0))), (4, .u (.c (.ptr0 1001000001 0))), (5, .u (.c (.ptr0 1001000002 0))), (6, .u (.c (.ptr0 1001000003 0))), (7, .u (.c (.ptr0 1001000004 0))), (8, .u (.c (.int)))], [(1001000000, ⟨false, 8, 28, .vec .u32⟩), (1001000001, ⟨false, 8, 28, .vec .u32⟩), (1001000002, ⟨false, 64, 172, .vec .u32⟩), (1001000003, ⟨false, 64, 172, .vec .u32⟩), (1001000004, ⟨false, 8, 28, .vec .u32⟩)]⟩, .fall⟩),
    (9, ⟨⟨102, [(2, .u (.c (.ptr0 10000000 0))), (4, .u (.c (.ptr0 10000001 0))), (89, .u (.vec .u32)), (90, .u (.c (.int)))], [(10000000, ⟨false, 8, 28, .vec .u32⟩), (10000001, ⟨false, 8, 28, .vec .u32⟩)]⟩, .exit 0⟩)]

def env48 (N : Nat) : List (Nat × Sg) := [(153, g153 N), (154, g154 N), (155, g155 N)]

theorem env48_ok (N : Nat) : EnvOK Try.prog pd.els (env48 N) := ⟨g153_ok N, ⟨g154_ok N, ⟨g155_ok N, trivial⟩⟩⟩

theorem g48_ok (N : Nat) : SgOK Try.prog pd.els 48 (g48 N) :=
  sgK_ok pd_ok (env_look (env48_ok N)) Try.func48 (name_ne (by kernel_rfl)) [(K.vec .u32), (K.vec .u8)] [(K.vec .u32)] _ N tab48 4 fun x => by kernel_rfl

/-! #### 42 -/

def b42_11 (N : Nat) (A_8 : (List UInt32) → Int → (List UInt8) → (List UInt8) → Option (List UInt8 × Unit)) (A_11 : Int → UInt32 → (List UInt32) → Int → Int → (List UInt8) → (List UInt8) → Option (List UInt8 × Unit)) (i6 : Int) (v7 : UInt32) (t23 : List UInt32) (t24 : Int) (t28 : Int) (ob0 : List UInt8) (ob1 : List UInt8) : Option (List UInt8 × Unit) :=
  cond (hide (ltI t28 (4 : Int))) (must (leI (0 : Int) (hide (wr (hide (wr ((4 : Int) * i6)) + t28))) && ltI (hide (wr (hide (wr ((4 : Int) * i6)) + t28))) (↑(32 : Nat) : Int)) (A_11 i6 v7 t23 t24 (hide (wr (t28 + (1 : Int)))) ob0 (setL ob1 (Int.toNat (hide (wr (hide (wr ((4 : Int) * i6)) + t28)))) (hide (UInt8.ofNat (UInt32.toNat (hide (shr32 v7 (UInt64.toNat (hide (u64I (hide (wr ((24 : Int) - hide (wr ((8 : Int) * t28)))))))))))))))) (A_8 t23 (hide (wr (t24 + (1 : Int)))) ob0 ob1)

def l42_11 (N : Nat) (A_8 : (List UInt32) → Int → (List UInt8) → (List UInt8) → Option (List UInt8 × Unit)) (n : Nat) (i6 : Int) (v7 : UInt32) (t23 : List UInt32) (t24 : Int) (t28 : Int) (ob0 : List UInt8) (ob1 : List UInt8) : Option (List UInt8 × Unit) :=
  loopN (fun A x => b42_11 N A_8 (fun i6 v7 t23 t24 t28 ob0 ob1 => A (((), ((), (i6, (v7, (t23, (t24, (t28, ()))))))), (ob0, (ob1, ())))) x.1.2.2.1 x.1.2.2.2.1 x.1.2.2.2.2.1 x.1.2.2.2.2.2.1 x.1.2.2.2.2.2.2.1 x.2.1 x.2.2.1) n (((), ((), (i6, (v7, (t23, (t24, (t28, ()))))))), (ob0, (ob1, ())))

theorem l42_11_zero (N : Nat) (A_8 : (List UInt32) → Int → (List UInt8) → (List UInt8) → Option (List UInt8 × Unit)) (i6 : Int) (v7 : UInt32) (t23 : List UInt32) (t24 : Int) (t28 : Int) (ob0 : List UInt8) (ob1 : List UInt8) : l42_11 N A_8 0 i6 v7 t23 t24 t28 ob0 ob1 = none := rfl

theorem l42_11_succ (N : Nat) (A_8 : (List UInt32) → Int → (List UInt8) → (List UInt8) → Option (List UInt8 × Unit)) (n : Nat) (i6 : Int) (v7 : UInt32) (t23 : List UInt32) (t24 : Int) (t28 : Int) (ob0 : List UInt8) (ob1 : List UInt8) : l42_11 N A_8 (n + 1) i6 v7 t23 t24 t28 ob0 ob1 = b42_11 N A_8 (l42_11 N A_8 n) i6 v7 t23 t24 t28 ob0 ob1 := rfl

def b42_8 (N : Nat) (A_8 : (List UInt32) → Int → (List UInt8) → (List UInt8) → Option (List UInt8 × Unit)) (t23 : List UInt32) (t24 : Int) (ob0 : List UInt8) (ob1 : List UInt8) : Option (List UInt8 × Unit) :=
  cond (hide (ltI t24 (8 : Int))) (must (leI (0 : Int) t24 && (ltI t24 (↑(8 : Nat) : Int) && ltI t24 (↑(List.length t23) : Int))) (l42_11 N A_8 N t24 (List.getD t23 (Int.toNat t24) (0 : UInt32)) t23 t24 ((0 : Int)) ob0 ob1)) (must (Nat.beq (List.length ob1) (32 : Nat)) (some ((ob1, ()))))

def l42_8 (N : Nat) (n : Nat) (t23 : List UInt32) (t24 : Int) (ob0 : List UInt8) (ob1 : List UInt8) : Option (List UInt8 × Unit) :=
  loopN (fun A x => b42_8 N (fun t23 t24 ob0 ob1 => A (((), ((), (t23, (t24, ())))), (ob0, (ob1, ())))) x.1.2.2.1 x.1.2.2.2.1 x.2.1 x.2.2.1) n (((), ((), (t23, (t24, ())))), (ob0, (ob1, ())))

theorem l42_8_zero (N : Nat) (t23 : List UInt32) (t24 : Int) (ob0 : List UInt8) (ob1 : List UInt8) : l42_8 N 0 t23 t24 ob0 ob1 = none := rfl

theorem l42_8_succ (N : Nat) (n : Nat) (t23 : List UInt32) (t24 : Int) (ob0 : List UInt8) (ob1 : List UInt8) : l42_8 N (n + 1) t23 t24 ob0 ob1 = b42_8 N (l42_8 N n) t23 t24 ob0 ob1 := rfl

def b42_3 (N : Nat) (A_3 : Nat → Nat → (List UInt8) → (List UInt32) → (List UInt8) → Option (List UInt8 × Unit)) (l4f : Nat) (l4n : Nat) (ob0 : List UInt8) (ob1 : List UInt32) (l4o : List UInt8) : Option (List UInt8 × Unit) :=
  cond (hide (ltI (0 : Int) (↑l4n : Int))) (must (leI (64 : Int) (↑l4n : Int)) (must (leN (l4f + Int.toNat (0 : Int) + (64 : Nat)) (List.length l4o)) (Option.bind (p48 N ob1 (List.take (64 : Nat) (List.drop (l4f + Int.toNat (0 : Int)) l4o))) fun r0 => must (Nat.beq (List.length (Prod.fst r0)) (8 : Nat)) (must (leI (64 : Int) (↑l4n : Int) && leI (↑l4n : Int) (↑l4n : Int)) (A_3 (l4f + Int.toNat (64 : Int)) (Int.toNat ((↑l4n : Int) - (64 : Int))) ob0 (Prod.fst r0) l4o))))) (l42_8 N N ob1 ((0 : Int)) ob0 ([(0 : UInt8), (0 : UInt8), (0 : UInt8), (0 : UInt8), (0 : UInt8), (0 : UInt8), (0 : UInt8), (0 : UInt8), (0 : UInt8), (0 : UInt8), (0 : UInt8), (0 : UInt8), (0 : UInt8), (0 : UInt8), (0 : UInt8), (0 : UInt8), (0 : UInt8), (0 : UInt8), (0 : UInt8), (0 : UInt8), (0 : UInt8), (0 : UInt8), (0 : UInt8), (0 : UInt8), (0 : UInt8), (0 : UInt8), (0 : UInt8), (0 : UInt8), (0 : UInt8), (0 : UInt8), (0 : UInt8), (0 : UInt8)]))

def l42_3 (N : Nat) (n : Nat) (l4f : Nat) (l4n : Nat) (ob0 : List UInt8) (ob1 : List UInt32) (l4o : List UInt8) : Option (List UInt8 × Unit) :=
  loopN (fun A x => b42_3 N (fun l4f l4n ob0 ob1 l4o => A (((), ((), ((l4f, l4n), ()))), (ob0, (ob1, (l4o, ()))))) x.1.2.2.1.1 x.1.2.2.1.2 x.2.1 x.2.2.1 x.2.2.2.1) n (((), ((), ((l4f, l4n), ()))), (ob0, (ob1, (l4o, ()))))

theorem l42_3_zero (N : Nat) (l4f : Nat) (l4n : Nat) (ob0 : List UInt8) (ob1 : List UInt32) (l4o : List UInt8) : l42_3 N 0 l4f l4n ob0 ob1 l4o = none := rfl

theorem l42_3_succ (N : Nat) (n : Nat) (l4f : Nat) (l4n : Nat) (ob0 : List UInt8) (ob1 : List UInt32) (l4o : List UInt8) : l42_3 N (n + 1) l4f l4n ob0 ob1 l4o = b42_3 N (l42_3 N n) l4f l4n ob0 ob1 l4o := rfl

def p42 (N : Nat) (b0 : List UInt8) : Option (List UInt8 × Unit) :=
  Option.bind (p149 N) fun r0 => must (Nat.beq (List.length (Prod.fst r0)) (8 : Nat)) (Option.bind (p150 N b0) fun r1 => l42_3 N N ((0 : Nat)) (List.length (Prod.fst r1)) ([(0 : UInt8), (0 : UInt8), (0 : UInt8), (0 : UInt8), (0 : UInt8), (0 : UInt8), (0 : UInt8), (0 : UInt8), (0 : UInt8), (0 : UInt8), (0 : UInt8), (0 : UInt8), (0 : UInt8), (0 : UInt8), (0 : UInt8), (0 : UInt8), (0 : UInt8), (0 : UInt8), (0 : UInt8), (0 : UInt8), (0 : UInt8), (0 : UInt8), (0 : UInt8), (0 : UInt8), (0 : UInt8), (0 : UInt8), (0 : UInt8), (0 : UInt8), (0 : UInt8), (0 : UInt8), (0 : UInt8), (0 : UInt8)]) (Prod.fst r0) (Prod.fst r1))

def g42 (N : Nat) : Sg := sgK [(K.ro .u8)] [(K.vec .u8)] fun x => p42 N x.1

def tab42 : List (Nat × Head) := [
    (3, ⟨⟨46, [(2, .u (.c (.ptr0 4000000 0))), (3, .u (.c (.ptr0 4000001 0))), (4, .u (.c (.sl 4000002)))], [(4000000, ⟨false, 32, 22, .vec .u8⟩), (4000001, ⟨false, 8, 28, .vec .u32⟩), (4000002, ⟨true, 0, 5, .vec .u8⟩)]⟩, .exit 0⟩),
    (8, ⟨⟨46, [(2, .u (.c (.ptr0 9000000 0))), (5, .u (.c (.ptr0 9000001 0))), (23, .u (.vec .u32)), (24, .u (.c (.int)))], [(9000000, ⟨false, 32, 22, .vec .u8⟩), (9000001, ⟨false, 32, 22, .vec .u8⟩)]⟩, .exit 2⟩),
    (11, ⟨⟨46, [(2, .u (.c (.ptr0 12000000 0))), (5, .u (.c (.ptr0 12000001 0))), (6, .u (.c (.int))), (7, .u (.c (.u32))), (23, .u (.vec .u32)), (24, .u (.c (.int))), (28, .u (.c (.int)))], [(12000000, ⟨false, 32, 22, .vec .u8⟩), (12000001, ⟨false, 32, 22, .vec .u8⟩)]⟩, .exit 4⟩)]

def env42 (N : Nat) : List (Nat × Sg) := [(149, g149 N), (150, g150 N), (48, g48 N)]

theorem env42_ok (N : Nat) : EnvOK Try.prog pd.els (env42 N) := ⟨g149_ok N, ⟨g150_ok N, ⟨g48_ok N, trivial⟩⟩⟩

theorem g42_ok (N : Nat) : SgOK Try.prog pd.els 42 (g42 N) :=
  sgK_ok pd_ok (env_look (env42_ok N)) Try.func42 (name_ne (by kernel_rfl)) [(K.ro .u8)] [(K.vec .u8)] _ N tab42 4 fun x => by kernel_rfl

/-! #### 209 -/

def p209 (N : Nat) (x0 : UInt32) (n1 : Int) : Option (UInt32 × Unit) :=
  must (leI (0 : Int) n1) (must (ltI n1 (18446744073709551616 : Int)) (must (leI (0 : Int) (hide (wr ((32 : Int) - n1)))) (must (ltI (hide (wr ((32 : Int) - n1))) (18446744073709551616 : Int)) (some ((hide (hide (shr32 x0 (UInt64.toNat (UInt64.ofNat (Int.toNat n1)))) ||| hide (shl32 x0 (UInt64.toNat (UInt64.ofNat (Int.toNat (hide (wr ((32 : Int) - n1)))))))), ()))))))

def g209 (N : Nat) : Sg := sgK [K.u32, K.int] [K.u32] fun x => p209 N x.1 x.2.1

def tab209 : List (Nat × Head) := [
    ]

def env209 (N : Nat) : List (Nat × Sg) := []

theorem env209_ok (N : Nat) : EnvOK Try.prog pd.els (env209 N) := trivial

theorem g209_ok (N : Nat) : SgOK Try.prog pd.els 209 (g209 N) :=
  sgK_ok pd_ok (env_look (env209_ok N)) Try.func209 (name_ne (by kernel_rfl)) [K.u32, K.int] [K.u32] _ N tab209 4 fun x => by kernel_rfl

/-! #### 212 -/

def p212 (N : Nat) (v0 : UInt64) (n1 : UInt64) (cube2 : Bool) : Option (Bool × Unit) :=
  Option.bind (p163 N v0 v0) fun r0 => cond (hide !cube2) (cond (hide (ltN (UInt64.toNat (Prod.fst r0)) (UInt64.toNat n1))) (some ((true, ()))) (cond (hide (Prod.fst r0 == n1)) (some ((hide (Prod.fst (Prod.snd r0) == (0 : UInt64)), ()))) (some ((false, ()))))) (Option.bind (p163 N (Prod.fst (Prod.snd r0)) v0) fun r1 => Option.bind (p163 N (Prod.fst r0) v0) fun r2 => Option.bind (kAdd (Prod.fst r1) (Prod.fst (Prod.snd r2)) ((0 : UInt64))) fun r3 => Option.bind (p163 N (Prod.fst r0) v0) fun r4 => cond (hide !hide (Prod.fst r4 + Prod.snd r3) == (0 : UInt64)) (some ((false, ()))) (cond (hide (ltN (UInt64.toNat (Prod.fst r3)) (UInt64.toNat (hide (shl64 n1 (UInt64.toNat (32 : UInt64))))))) (some ((true, ()))) (cond (hide (Prod.fst r3 == hide (shl64 n1 (UInt64.toNat (32 : UInt64))))) (some ((hide (Prod.fst (Prod.snd r1) == (0 : UInt64)), ()))) (some ((false, ()))))))

def g212 (N : Nat) : Sg := sgK [K.u64, K.u64, K.bool] [K.bool] fun x => p212 N x.1 x.2.1 x.2.2.1

def tab212 : List (Nat × Head) := [
    ]

def env212 (N : Nat) : List (Nat × Sg) := [(163, g163 N), (164, sg3 kAdd)]

theorem env212_ok (N : Nat) : EnvOK Try.prog pd.els (env212 N) := ⟨g163_ok N, ⟨e164_ok, trivial⟩⟩

theorem g212_ok (N : Nat) : SgOK Try.prog pd.els 212 (g212 N) :=
  sgK_ok pd_ok (env_look (env212_ok N)) Try.func212 (name_ne (by kernel_rfl)) [K.u64, K.u64, K.bool] [K.bool] _ N tab212 4 fun x => by kernel_rfl

/-! #### 156 -/

def b156_7 (N : Nat) (A_3 : UInt64 → (List UInt64) → Option (List UInt64 × Unit)) (A_7 : UInt64 → Bool → Int → (List UInt64) → Option (List UInt64 × Unit)) (n2 : UInt64) (is3 : Bool) (i4 : Int) (l1o : List UInt64) : Option (List UInt64 × Unit) :=
  cond (hide (ltI i4 (↑(List.length l1o) : Int))) (cond is3 (must (leI (0 : Int) i4 && ltI i4 (↑(List.length l1o) : Int)) (must (!List.getD l1o (Int.toNat i4) (0 : UInt64) == (0 : UInt64)) (A_7 n2 (hide !hide (n2 % List.getD l1o (Int.toNat i4) (0 : UInt64)) == (0 : UInt64)) (hide (wr (i4 + (1 : Int)))) l1o))) (A_7 n2 false (hide (wr (i4 + (1 : Int)))) l1o)) (cond is3 (must (leN ((List.length l1o + List.length [n2]) * (8 : Nat)) (140737488355328 : Nat)) (A_3 (hide (n2 + (1 : UInt64))) (l1o ++ [n2]))) (A_3 (hide (n2 + (1 : UInt64))) l1o))

def l156_7 (N : Nat) (A_3 : UInt64 → (List UInt64) → Option (List UInt64 × Unit)) (n : Nat) (n2 : UInt64) (is3 : Bool) (i4 : Int) (l1o : List UInt64) : Option (List UInt64 × Unit) :=
  loopN (fun A x => b156_7 N A_3 (fun n2 is3 i4 l1o => A (((), (n2, (is3, (i4, ())))), (l1o, ()))) x.1.2.1 x.1.2.2.1 x.1.2.2.2.1 x.2.1) n (((), (n2, (is3, (i4, ())))), (l1o, ()))

theorem l156_7_zero (N : Nat) (A_3 : UInt64 → (List UInt64) → Option (List UInt64 × Unit)) (n2 : UInt64) (is3 : Bool) (i4 : Int) (l1o : List UInt64) : l156_7 N A_3 0 n2 is3 i4 l1o = none := rfl

theorem l156_7_succ (N : Nat) (A_3 : UInt64 → (List UInt64) → Option (List UInt64 × Unit)) (n : Nat) (n2 : UInt64) (is3 : Bool) (i4 : Int) (l1o : List UInt64) : l156_7 N A_3 (n + 1) n2 is3 i4 l1o = b156_7 N A_3 (l156_7 N A_3 n) n2 is3 i4 l1o := rfl

def b156_3 (N : Nat) (A_3 : UInt64 → (List UInt64) → Option (List UInt64 × Unit)) (n2 : UInt64) (l1o : List UInt64) : Option (List UInt64 × Unit) :=
  cond (hide (ltI (↑(List.length l1o) : Int) (64 : Int))) (l156_7 N A_3 N n2 true ((0 : Int)) l1o) (some ((l1o, ())))

def l156_3 (N : Nat) (n : Nat) (n2 : UInt64) (l1o : List UInt64) : Option (List UInt64 × Unit) :=
  loopN (fun A x => b156_3 N (fun n2 l1o => A (((), (n2, ())), (l1o, ()))) x.1.2.1 x.2.1) n (((), (n2, ())), (l1o, ()))

theorem l156_3_zero (N : Nat) (n2 : UInt64) (l1o : List UInt64) : l156_3 N 0 n2 l1o = none := rfl

theorem l156_3_succ (N : Nat) (n : Nat) (n2 : UInt64) (l1o : List UInt64) : l156_3 N (n + 1) n2 l1o = b156_3 N (l156_3 N n) n2 l1o := rfl

def p156 (N : Nat) : Option (List UInt64 × Unit) :=
  l156_3 N N ((2 : UInt64)) []

def g156 (N : Nat) : Sg := sgK [] [(K.ro .u64)] fun x => p156 N 

def tab156 : List (Nat × Head) := [
    (3, ⟨⟨32, [(1, .u (.c (.row 4000000))), (2, .u (.c (.u64)))], [(4000000, ⟨true, 0, 42, .vec .u64⟩)]⟩, .exit 0⟩),
    (7, ⟨⟨32, [(1, .u (.c (.row 8000000))), (2, .u (.c (.u64))), (3, .u (.c (.bool))), (4, .u (.c (.int)))], [(8000000, ⟨true, 0, 42, .vec .u64⟩)]⟩, .exit 2⟩)]

def env156 (N : Nat) : List (Nat × Sg) := []

theorem env156_ok (N : Nat) : EnvOK Try.prog pd.els (env156 N) := trivial

theorem g156_ok (N : Nat) : SgOK Try.prog pd.els 156 (g156 N) :=
  sgK_ok pd_ok (env_look (env156_ok N)) Try.func156 (name_ne (by kernel_rfl)) [] [(K.ro .u64)] _ N tab156 4 fun x => by kernel_rfl

/-! #### 157 -/

def b157_3 (N : Nat) (A_3 : UInt64 → Bool → UInt64 → Int → Option (UInt32 × Unit)) (n0 : UInt64) (cube1 : Bool) (v5 : UInt64) (i6 : Int) : Option (UInt32 × Unit) :=
  cond (hide (leI (0 : Int) i6)) (must (leI (0 : Int) i6) (must (ltI i6 (18446744073709551616 : Int)) (Option.bind (p212 N (hide (v5 + hide (shl64 (1 : UInt64) (UInt64.toNat (UInt64.ofNat (Int.toNat i6)))))) n0 cube1) fun r0 => cond (Prod.fst r0) (A_3 n0 cube1 (hide (v5 + hide (shl64 (1 : UInt64) (UInt64.toNat (UInt64.ofNat (Int.toNat i6)))))) (hide (wr (i6 - (1 : Int))))) (A_3 n0 cube1 v5 (hide (wr (i6 - (1 : Int)))))))) (some ((hide (UInt32.ofNat (UInt64.toNat v5)), ())))

def l157_3 (N : Nat) (n : Nat) (n0 : UInt64) (cube1 : Bool) (v5 : UInt64) (i6 : Int) : Option (UInt32 × Unit) :=
  loopN (fun A x => b157_3 N (fun n0 cube1 v5 i6 => A ((n0, (cube1, (v5, (i6, ())))), ())) x.1.1 x.1.2.1 x.1.2.2.1 x.1.2.2.2.1) n ((n0, (cube1, (v5, (i6, ())))), ())

theorem l157_3_zero (N : Nat) (n0 : UInt64) (cube1 : Bool) (v5 : UInt64) (i6 : Int) : l157_3 N 0 n0 cube1 v5 i6 = none := rfl

theorem l157_3_succ (N : Nat) (n : Nat) (n0 : UInt64) (cube1 : Bool) (v5 : UInt64) (i6 : Int) : l157_3 N (n + 1) n0 cube1 v5 i6 = b157_3 N (l157_3 N n) n0 cube1 v5 i6 := rfl

def p157 (N : Nat) (n0 : UInt64) (cube1 : Bool) : Option (UInt32 × Unit) :=
  l157_3 N N n0 cube1 ((0 : UInt64)) ((36 : Int))

def g157 (N : Nat) : Sg := sgK [K.u64, K.bool] [K.u32] fun x => p157 N x.1 x.2.1

def tab157 : List (Nat × Head) := [
    (3, ⟨⟨23, [(0, .u (.c (.u64))), (1, .u (.c (.bool))), (5, .u (.c (.u64))), (6, .u (.c (.int)))], []⟩, .exit 0⟩)]

def env157 (N : Nat) : List (Nat × Sg) := [(212, g212 N)]

theorem env157_ok (N : Nat) : EnvOK Try.prog pd.els (env157 N) := ⟨g212_ok N, trivial⟩

theorem g157_ok (N : Nat) : SgOK Try.prog pd.els 157 (g157 N) :=
  sgK_ok pd_ok (env_look (env157_ok N)) Try.func157 (name_ne (by kernel_rfl)) [K.u64, K.bool] [K.u32] _ N tab157 4 fun x => by kernel_rfl

/-! #### 50 -/

def b50_4 (N : Nat) (A_4 : Int → (List UInt32) → (List UInt32) → (List UInt64) → Option (List UInt32 × Unit)) (i3 : Int) (ob0 : List UInt32) (ob1 : List UInt32) (p2o : List UInt64) : Option (List UInt32 × Unit) :=
  cond (hide (ltI i3 (8 : Int))) (must (leI (0 : Int) i3 && ltI i3 (↑(List.length p2o) : Int)) (Option.bind (p157 N (List.getD p2o (Int.toNat i3) (0 : UInt64)) false) fun r0 => must (leI (0 : Int) i3 && ltI i3 (↑(8 : Nat) : Int)) (A_4 (hide (wr (i3 + (1 : Int)))) ob0 (setL ob1 (Int.toNat i3) (Prod.fst r0)) p2o))) (must (Nat.beq (List.length ob1) (8 : Nat)) (some ((ob1, ()))))

def l50_4 (N : Nat) (n : Nat) (i3 : Int) (ob0 : List UInt32) (ob1 : List UInt32) (p2o : List UInt64) : Option (List UInt32 × Unit) :=
  loopN (fun A x => b50_4 N (fun i3 ob0 ob1 p2o => A (((), ((), ((), (i3, ())))), (ob0, (ob1, (p2o, ()))))) x.1.2.2.2.1 x.2.1 x.2.2.1 x.2.2.2.1) n (((), ((), ((), (i3, ())))), (ob0, (ob1, (p2o, ()))))

theorem l50_4_zero (N : Nat) (i3 : Int) (ob0 : List UInt32) (ob1 : List UInt32) (p2o : List UInt64) : l50_4 N 0 i3 ob0 ob1 p2o = none := rfl

theorem l50_4_succ (N : Nat) (n : Nat) (i3 : Int) (ob0 : List UInt32) (ob1 : List UInt32) (p2o : List UInt64) : l50_4 N (n + 1) i3 ob0 ob1 p2o = b50_4 N (l50_4 N n) i3 ob0 ob1 p2o := rfl

def p50 (N : Nat) : Option (List UInt32 × Unit) :=
  Option.bind (p156 N) fun r0 => l50_4 N N ((0 : Int)) ([(0 : UInt32), (0 : UInt32), (0 : UInt32), (0 : UInt32), (0 : UInt32), (0 : UInt32), (0 : UInt32), (0 : UInt32)]) ([(0 : UInt32), (0 : UInt32), (0 : UInt32), (0 : UInt32), (0 : UInt32), (0 : UInt32), (0 : UInt32), (0 : UInt32)]) (Prod.fst r0)

def g50 (N : Nat) : Sg := sgK [] [(K.vec .u32)] fun x => p50 N 

def tab50 : List (Nat × Head) := [
    (4, ⟨⟨17, [(0, .u (.c (.ptr0 5000000 0))), (1, .u (.c (.ptr0 5000001 0))), (2, .u (.c (.row 5000002))), (3, .u (.c (.int)))], [(5000000, ⟨false, 8, 28, .vec .u32⟩), (5000001, ⟨false, 8, 28, .vec .u32⟩), (5000002, ⟨true, 0, 42, .vec .u64⟩)]⟩, .exit 0⟩)]

def env50 (N : Nat) : List (Nat × Sg) := [(156, g156 N), (157, g157 N)]

theorem env50_ok (N : Nat) : EnvOK Try.prog pd.els (env50 N) := ⟨g156_ok N, ⟨g157_ok N, trivial⟩⟩

theorem g50_ok (N : Nat) : SgOK Try.prog pd.els 50 (g50 N) :=
  sgK_ok pd_ok (env_look (env50_ok N)) Try.func50 (name_ne (by kernel_rfl)) [] [(K.vec .u32)] _ N tab50 4 fun x => by kernel_rfl

/-! #### 151 -/

def b151_4 (N : Nat) (A_4 : Int → (List UInt32) → (List UInt32) → (List UInt64) → Option (List UInt32 × Unit)) (i3 : Int) (ob0 : List UInt32) (ob1 : List UInt32) (p2o : List UInt64) : Option (List UInt32 × Unit) :=
  cond (hide (ltI i3 (64 : Int))) (must (leI (0 : Int) i3 && ltI i3 (↑(List.length p2o) : Int)) (Option.bind (p157 N (List.getD p2o (Int.toNat i3) (0 : UInt64)) true) fun r0 => must (leI (0 : Int) i3 && ltI i3 (↑(64 : Nat) : Int)) (A_4 (hide (wr (i3 + (1 : Int)))) ob0 (setL ob1 (Int.toNat i3) (Prod.fst r0)) p2o))) (must (Nat.beq (List.length ob1) (64 : Nat)) (some ((ob1, ()))))

def l151_4 (N : Nat) (n : Nat) (i3 : Int) (ob0 : List UInt32) (ob1 : List UInt32) (p2o : List UInt64) : Option (List UInt32 × Unit) :=
  loopN (fun A x => b151_4 N (fun i3 ob0 ob1 p2o => A (((), ((), ((), (i3, ())))), (ob0, (ob1, (p2o, ()))))) x.1.2.2.2.1 x.2.1 x.2.2.1 x.2.2.2.1) n (((), ((), ((), (i3, ())))), (ob0, (ob1, (p2o, ()))))

theorem l151_4_zero (N : Nat) (i3 : Int) (ob0 : List UInt32) (ob1 : List UInt32) (p2o : List UInt64) : l151_4 N 0 i3 ob0 ob1 p2o = none := rfl

theorem l151_4_succ (N : Nat) (n : Nat) (i3 : Int) (ob0 : List UInt32) (ob1 : List UInt32) (p2o : List UInt64) : l151_4 N (n + 1) i3 ob0 ob1 p2o = b151_4 N (l151_4 N n) i3 ob0 ob1 p2o := rfl

def p151 (N : Nat) : Option (List UInt32 × Unit) :=
  Option.bind (p156 N) fun r0 => l151_4 N N ((0 : Int)) ([(0 : UInt32), (0 : UInt32), (0 : UInt32), (0 : UInt32), (0 : UInt32), (0 : UInt32), (0 : UInt32), (0 : UInt32), (0 : UInt32), (0 : UInt32), (0 : UInt32), (0 : UInt32), (0 : UInt32), (0 : UInt32), (0 : UInt32), (0 : UInt32), (0 : UInt32), (0 : UInt32), (0 : UInt32), (0 : UInt32), (0 : UInt32), (0 : UInt32), (0 : UInt32), (0 : UInt32), (0 : UInt32), (0 : UInt32), (0 : UInt32), (0 : UInt32), (0 : UInt32), (0 : UInt32), (0 : UInt32), (0 : UInt32), (0 : UInt32), (0 : UInt32), (0 : UInt32), (0 : UInt32), (0 : UInt32), (0 : UInt32), (0 : UInt32), (0 : UInt32), (0 : UInt32), (0 : UInt32), (0 : UInt32), (0 : UInt32), (0 : UInt32), (0 : UInt32), (0 : UInt32), (0 : UInt32), (0 : UInt32), (0 : UInt32), (0 : UInt32), (0 : UInt32), (0 : UInt32), (0 : UInt32), (0 : UInt32), (0 : UInt32), (0 : UInt32), (0 : UInt32), (0 : UInt32), (0 : UInt32), (0 : UInt32), (0 : UInt32), (0 : UInt32), (0 : UInt32)]) ([(0 : UInt32), (0 : UInt32), (0 : UInt32), (0 : UInt32), (0 : UInt32), (0 : UInt32), (0 : UInt32), (0 : UInt32), (0 : UInt32), (0 : UInt32), (0 : UInt32), (0 : UInt32), (0 : UInt32), (0 : UInt32), (0 : UInt32), (0 : UInt32), (0 : UInt32), (0 : UInt32), (0 : UInt32), (0 : UInt32), (0 : UInt32), (0 : UInt32), (0 : UInt32), (0 : UInt32), (0 : UInt32), (0 : UInt32), (0 : UInt32), (0 : UInt32), (0 : UInt32), (0 : UInt32), (0 : UInt32), (0 : UInt32), (0 : UInt32), (0 : UInt32), (0 : UInt32), (0 : UInt32), (0 : UInt32), (0 : UInt32), (0 : UInt32), (0 : UInt32), (0 : UInt32), (0 : UInt32), (0 : UInt32), (0 : UInt32), (0 : UInt32), (0 : UInt32), (0 : UInt32), (0 : UInt32), (0 : UInt32), (0 : UInt32), (0 : UInt32), (0 : UInt32), (0 : UInt32), (0 : UInt32), (0 : UInt32), (0 : UInt32), (0 : UInt32), (0 : UInt32), (0 : UInt32), (0 : UInt32), (0 : UInt32), (0 : UInt32), (0 : UInt32), (0 : UInt32)]) (Prod.fst r0)

def g151 (N : Nat) : Sg := sgK [] [(K.vec .u32)] fun x => p151 N 

def tab151 : List (Nat × Head) := [
    (4, ⟨⟨17, [(0, .u (.c (.ptr0 5000000 0))), (1, .u (.c (.ptr0 5000001 0))), (2, .u (.c (.row 5000002))), (3, .u (.c (.int)))], [(5000000, ⟨false, 64, 172, .vec .u32⟩), (5000001, ⟨false, 64, 172, .vec .u32⟩), (5000002, ⟨true, 0, 42, .vec .u64⟩)]⟩, .exit 0⟩)]

def env151 (N : Nat) : List (Nat × Sg) := [(156, g156 N), (157, g157 N)]

theorem env151_ok (N : Nat) : EnvOK Try.prog pd.els (env151 N) := ⟨g156_ok N, ⟨g157_ok N, trivial⟩⟩

theorem g151_ok (N : Nat) : SgOK Try.prog pd.els 151 (g151 N) :=
  sgK_ok pd_ok (env_look (env151_ok N)) Try.func151 (name_ne (by kernel_rfl)) [] [(K.vec .u32)] _ N tab151 4 fun x => by kernel_rfl

/-! #### 152 -/

def b152_20 (N : Nat) (A_20 : Int → (List UInt32) → (List UInt32) → (List UInt32) → Option (List UInt32 × Unit)) (i18 : Int) (ob0 : List UInt32) (ob1 : List UInt32) (ob2 : List UInt32) : Option (List UInt32 × Unit) :=
  cond (hide (ltI i18 (8 : Int))) (must (leI (0 : Int) i18 && ltI i18 (↑(8 : Nat) : Int)) (must (leI (0 : Int) i18 && ltI i18 (↑(8 : Nat) : Int)) (must (leI (0 : Int) i18 && ltI i18 (↑(8 : Nat) : Int)) (A_20 (hide (wr (i18 + (1 : Int)))) ob0 ob1 (setL ob2 (Int.toNat i18) (hide (List.getD ob2 (Int.toNat i18) (0 : UInt32) + List.getD ob0 (Int.toNat i18) (0 : UInt32)))))))) (must (Nat.beq (List.length ob2) (8 : Nat)) (some ((ob2, ()))))

def l152_20 (N : Nat) (n : Nat) (i18 : Int) (ob0 : List UInt32) (ob1 : List UInt32) (ob2 : List UInt32) : Option (List UInt32 × Unit) :=
  loopN (fun A x => b152_20 N (fun i18 ob0 ob1 ob2 => A (((), ((), ((), (i18, ())))), (ob0, (ob1, (ob2, ()))))) x.1.2.2.2.1 x.2.1 x.2.2.1 x.2.2.2.1) n (((), ((), ((), (i18, ())))), (ob0, (ob1, (ob2, ()))))

theorem l152_20_zero (N : Nat) (i18 : Int) (ob0 : List UInt32) (ob1 : List UInt32) (ob2 : List UInt32) : l152_20 N 0 i18 ob0 ob1 ob2 = none := rfl

theorem l152_20_succ (N : Nat) (n : Nat) (i18 : Int) (ob0 : List UInt32) (ob1 : List UInt32) (ob2 : List UInt32) : l152_20 N (n + 1) i18 ob0 ob1 ob2 = b152_20 N (l152_20 N n) i18 ob0 ob1 ob2 := rfl

def b152_13 (N : Nat) (A_13 : Int → (List UInt32) → (List UInt32) → (List UInt32) → (List UInt32) → (List UInt32) → Option (List UInt32 × Unit)) (i13 : Int) (ob0 : List UInt32) (ob1 : List UInt32) (ob2 : List UInt32) (ob3 : List UInt32) (ob4 : List UInt32) : Option (List UInt32 × Unit) :=
  cond (hide (ltI i13 (64 : Int))) (Option.bind (p209 N (List.getD ob4 (4 : Nat) (0 : UInt32)) ((6 : Int))) fun r0 => Option.bind (p209 N (List.getD ob4 (4 : Nat) (0 : UInt32)) ((11 : Int))) fun r1 => Option.bind (p209 N (List.getD ob4 (4 : Nat) (0 : UInt32)) ((25 : Int))) fun r2 => must (leI (0 : Int) i13 && ltI i13 (↑(64 : Nat) : Int)) (must (leI (0 : Int) i13 && ltI i13 (↑(64 : Nat) : Int)) (Option.bind (p209 N (List.getD ob4 (0 : Nat) (0 : UInt32)) ((2 : Int))) fun r3 => Option.bind (p209 N (List.getD ob4 (0 : Nat) (0 : UInt32)) ((13 : Int))) fun r4 => Option.bind (p209 N (List.getD ob4 (0 : Nat) (0 : UInt32)) ((22 : Int))) fun r5 => A_13 (hide (wr (i13 + (1 : Int)))) ob0 ob1 ob2 ob3 ([hide (hide (hide (hide (hide (List.getD ob4 (7 : Nat) (0 : UInt32) + hide (hide (Prod.fst r0 ^^^ Prod.fst r1) ^^^ Prod.fst r2)) + hide (hide (List.getD ob4 (4 : Nat) (0 : UInt32) &&& List.getD ob4 (5 : Nat) (0 : UInt32)) ^^^ hide (hide (~~~List.getD ob4 (4 : Nat) (0 : UInt32)) &&& List.getD ob4 (6 : Nat) (0 : UInt32)))) + List.getD ob1 (Int.toNat i13) (0 : UInt32)) + List.getD ob3 (Int.toNat i13) (0 : UInt32)) + hide (hide (hide (Prod.fst r3 ^^^ Prod.fst r4) ^^^ Prod.fst r5) + hide (hide (hide (List.getD ob4 (0 : Nat) (0 : UInt32) &&& List.getD ob4 (1 : Nat) (0 : UInt32)) ^^^ hide (List.getD ob4 (0 : Nat) (0 : UInt32) &&& List.getD ob4 (2 : Nat) (0 : UInt32))) ^^^ hide (List.getD ob4 (1 : Nat) (0 : UInt32) &&& List.getD ob4 (2 : Nat) (0 : UInt32))))), List.getD ob4 (0 : Nat) (0 : UInt32), List.getD ob4 (1 : Nat) (0 : UInt32), List.getD ob4 (2 : Nat) (0 : UInt32), hide (List.getD ob4 (3 : Nat) (0 : UInt32) + hide (hide (hide (hide (List.getD ob4 (7 : Nat) (0 : UInt32) + hide (hide (Prod.fst r0 ^^^ Prod.fst r1) ^^^ Prod.fst r2)) + hide (hide (List.getD ob4 (4 : Nat) (0 : UInt32) &&& List.getD ob4 (5 : Nat) (0 : UInt32)) ^^^ hide (hide (~~~List.getD ob4 (4 : Nat) (0 : UInt32)) &&& List.getD ob4 (6 : Nat) (0 : UInt32)))) + List.getD ob1 (Int.toNat i13) (0 : UInt32)) + List.getD ob3 (Int.toNat i13) (0 : UInt32))), List.getD ob4 (4 : Nat) (0 : UInt32), List.getD ob4 (5 : Nat) (0 : UInt32), List.getD ob4 (6 : Nat) (0 : UInt32)])))) (l152_20 N N ((0 : Int)) ob0 ob2 ob4)

def l152_13 (N : Nat) (n : Nat) (i13 : Int) (ob0 : List UInt32) (ob1 : List UInt32) (ob2 : List UInt32) (ob3 : List UInt32) (ob4 : List UInt32) : Option (List UInt32 × Unit) :=
  loopN (fun A x => b152_13 N (fun i13 ob0 ob1 ob2 ob3 ob4 => A (((), ((), ((), ((), ((), (i13, ())))))), (ob0, (ob1, (ob2, (ob3, (ob4, ()))))))) x.1.2.2.2.2.2.1 x.2.1 x.2.2.1 x.2.2.2.1 x.2.2.2.2.1 x.2.2.2.2.2.1) n (((), ((), ((), ((), ((), (i13, ())))))), (ob0, (ob1, (ob2, (ob3, (ob4, ()))))))

theorem l152_13_zero (N : Nat) (i13 : Int) (ob0 : List UInt32) (ob1 : List UInt32) (ob2 : List UInt32) (ob3 : List UInt32) (ob4 : List UInt32) : l152_13 N 0 i13 ob0 ob1 ob2 ob3 ob4 = none := rfl

theorem l152_13_succ (N : Nat) (n : Nat) (i13 : Int) (ob0 : List UInt32) (ob1 : List UInt32) (ob2 : List UInt32) (ob3 : List UInt32) (ob4 : List UInt32) : l152_13 N (n + 1) i13 ob0 ob1 ob2 ob3 ob4 = b152_13 N (l152_13 N n) i13 ob0 ob1 ob2 ob3 ob4 := rfl

def b152_7 (N : Nat) (A_7 : Int → (List UInt32) → (List UInt32) → (List UInt32) → (List UInt32) → Option (List UInt32 × Unit)) (i9 : Int) (ob0 : List UInt32) (ob1 : List UInt32) (ob2 : List UInt32) (ob3 : List UInt32) : Option (List UInt32 × Unit) :=
  cond (hide (ltI i9 (64 : Int))) (must (leI (0 : Int) (hide (wr (i9 - (15 : Int)))) && ltI (hide (wr (i9 - (15 : Int)))) (↑(64 : Nat) : Int)) (must (leI (0 : Int) (hide (wr (i9 - (2 : Int)))) && ltI (hide (wr (i9 - (2 : Int)))) (↑(64 : Nat) : Int)) (must (leI (0 : Int) (hide (wr (i9 - (16 : Int)))) && ltI (hide (wr (i9 - (16 : Int)))) (↑(64 : Nat) : Int)) (Option.bind (p209 N (List.getD ob3 (Int.toNat (hide (wr (i9 - (15 : Int))))) (0 : UInt32)) ((7 : Int))) fun r0 => Option.bind (p209 N (List.getD ob3 (Int.toNat (hide (wr (i9 - (15 : Int))))) (0 : UInt32)) ((18 : Int))) fun r1 => must (leI (0 : Int) (hide (wr (i9 - (7 : Int)))) && ltI (hide (wr (i9 - (7 : Int)))) (↑(64 : Nat) : Int)) (Option.bind (p209 N (List.getD ob3 (Int.toNat (hide (wr (i9 - (2 : Int))))) (0 : UInt32)) ((17 : Int))) fun r2 => Option.bind (p209 N (List.getD ob3 (Int.toNat (hide (wr (i9 - (2 : Int))))) (0 : UInt32)) ((19 : Int))) fun r3 => must (leI (0 : Int) i9 && ltI i9 (↑(64 : Nat) : Int)) (A_7 (hide (wr (i9 + (1 : Int)))) ob0 ob1 ob2 (setL ob3 (Int.toNat i9) (hide (hide (hide (List.getD ob3 (Int.toNat (hide (wr (i9 - (16 : Int))))) (0 : UInt32) + hide (hide (Prod.fst r0 ^^^ Prod.fst r1) ^^^ hide (shr32 (List.getD ob3 (Int.toNat (hide (wr (i9 - (15 : Int))))) (0 : UInt32)) (UInt64.toNat (3 : UInt64))))) + List.getD ob3 (Int.toNat (hide (wr (i9 - (7 : Int))))) (0 : UInt32)) + hide (hide (Prod.fst r2 ^^^ Prod.fst r3) ^^^ hide (shr32 (List.getD ob3 (Int.toNat (hide (wr (i9 - (2 : Int))))) (0 : UInt32)) (UInt64.toNat (10 : UInt64))))))))))))) (must (Nat.beq (List.length ob0) (8 : Nat)) (l152_13 N N ((0 : Int)) ob0 ob1 ob2 ob3 ob0))

def l152_7 (N : Nat) (n : Nat) (i9 : Int) (ob0 : List UInt32) (ob1 : List UInt32) (ob2 : List UInt32) (ob3 : List UInt32) : Option (List UInt32 × Unit) :=
  loopN (fun A x => b152_7 N (fun i9 ob0 ob1 ob2 ob3 => A (((), ((), ((), ((), (i9, ()))))), (ob0, (ob1, (ob2, (ob3, ())))))) x.1.2.2.2.2.1 x.2.1 x.2.2.1 x.2.2.2.1 x.2.2.2.2.1) n (((), ((), ((), ((), (i9, ()))))), (ob0, (ob1, (ob2, (ob3, ())))))

theorem l152_7_zero (N : Nat) (i9 : Int) (ob0 : List UInt32) (ob1 : List UInt32) (ob2 : List UInt32) (ob3 : List UInt32) : l152_7 N 0 i9 ob0 ob1 ob2 ob3 = none := rfl

theorem l152_7_succ (N : Nat) (n : Nat) (i9 : Int) (ob0 : List UInt32) (ob1 : List UInt32) (ob2 : List UInt32) (ob3 : List UInt32) : l152_7 N (n + 1) i9 ob0 ob1 ob2 ob3 = b152_7 N (l152_7 N n) i9 ob0 ob1 ob2 ob3 := rfl

def b152_3 (N : Nat) (A_3 : Int → (List UInt32) → (List UInt8) → (List UInt32) → (List UInt32) → (List UInt32) → Option (List UInt32 × Unit)) (i8 : Int) (ob0 : List UInt32) (ob1 : List UInt8) (ob2 : List UInt32) (ob3 : List UInt32) (ob4 : List UInt32) : Option (List UInt32 × Unit) :=
  cond (hide (ltI i8 (64 : Int))) (must (leI (0 : Int) (hide (wr (Int.tdiv i8 (4 : Int)))) && ltI (hide (wr (Int.tdiv i8 (4 : Int)))) (↑(64 : Nat) : Int)) (must (leI (0 : Int) i8 && ltI i8 (↑(64 : Nat) : Int)) (must (leI (0 : Int) (hide (wr (Int.tdiv i8 (4 : Int)))) && ltI (hide (wr (Int.tdiv i8 (4 : Int)))) (↑(64 : Nat) : Int)) (A_3 (hide (wr (i8 + (1 : Int)))) ob0 ob1 ob2 ob3 (setL ob4 (Int.toNat (hide (wr (Int.tdiv i8 (4 : Int))))) (hide (hide (shl32 (List.getD ob4 (Int.toNat (hide (wr (Int.tdiv i8 (4 : Int))))) (0 : UInt32)) (UInt64.toNat (8 : UInt64))) + hide (UInt32.ofNat (UInt8.toNat (List.getD ob1 (Int.toNat i8) (0 : UInt8))))))))))) (l152_7 N N ((16 : Int)) ob0 ob2 ob3 ob4)

def l152_3 (N : Nat) (n : Nat) (i8 : Int) (ob0 : List UInt32) (ob1 : List UInt8) (ob2 : List UInt32) (ob3 : List UInt32) (ob4 : List UInt32) : Option (List UInt32 × Unit) :=
  loopN (fun A x => b152_3 N (fun i8 ob0 ob1 ob2 ob3 ob4 => A (((), ((), ((), ((), ((), (i8, ())))))), (ob0, (ob1, (ob2, (ob3, (ob4, ()))))))) x.1.2.2.2.2.2.1 x.2.1 x.2.2.1 x.2.2.2.1 x.2.2.2.2.1 x.2.2.2.2.2.1) n (((), ((), ((), ((), ((), (i8, ())))))), (ob0, (ob1, (ob2, (ob3, (ob4, ()))))))

theorem l152_3_zero (N : Nat) (i8 : Int) (ob0 : List UInt32) (ob1 : List UInt8) (ob2 : List UInt32) (ob3 : List UInt32) (ob4 : List UInt32) : l152_3 N 0 i8 ob0 ob1 ob2 ob3 ob4 = none := rfl

theorem l152_3_succ (N : Nat) (n : Nat) (i8 : Int) (ob0 : List UInt32) (ob1 : List UInt8) (ob2 : List UInt32) (ob3 : List UInt32) (ob4 : List UInt32) : l152_3 N (n + 1) i8 ob0 ob1 ob2 ob3 ob4 = b152_3 N (l152_3 N n) i8 ob0 ob1 ob2 ob3 ob4 := rfl

def p152 (N : Nat) (h0 : List UInt32) (b1 : List UInt8) (k2 : List UInt32) : Option (List UInt32 × Unit) :=
  must (Nat.beq (List.length h0) (8 : Nat)) (must (Nat.beq (List.length b1) (64 : Nat)) (must (Nat.beq (List.length k2) (64 : Nat)) (l152_3 N N ((0 : Int)) h0 b1 k2 ([(0 : UInt32), (0 : UInt32), (0 : UInt32), (0 : UInt32), (0 : UInt32), (0 : UInt32), (0 : UInt32), (0 : UInt32)]) ([(0 : UInt32), (0 : UInt32), (0 : UInt32), (0 : UInt32), (0 : UInt32), (0 : UInt32), (0 : UInt32), (0 : UInt32), (0 : UInt32), (0 : UInt32), (0 : UInt32), (0 : UInt32), (0 : UInt32), (0 : UInt32), (0 : UInt32), (0 : UInt32), (0 : UInt32), (0 : UInt32), (0 : UInt32), (0 : UInt32), (0 : UInt32), (0 : UInt32), (0 : UInt32), (0 : UInt32), (0 : UInt32), (0 : UInt32), (0 : UInt32), (0 : UInt32), (0 : UInt32), (0 : UInt32), (0 : UInt32), (0 : UInt32), (0 : UInt32), (0 : UInt32), (0 : UInt32), (0 : UInt32), (0 : UInt32), (0 : UInt32), (0 : UInt32), (0 : UInt32), (0 : UInt32), (0 : UInt32), (0 : UInt32), (0 : UInt32), (0 : UInt32), (0 : UInt32), (0 : UInt32), (0 : UInt32), (0 : UInt32), (0 : UInt32), (0 : UInt32), (0 : UInt32), (0 : UInt32), (0 : UInt32), (0 : UInt32), (0 : UInt32), (0 : UInt32), (0 : UInt32), (0 : UInt32), (0 : UInt32), (0 : UInt32), (0 : UInt32), (0 : UInt32), (0 : UInt32)]))))

def g152 (N : Nat) : Sg := sgK [(K.vec .u32), (K.vec .u8), (K.vec .u32)] [(K.vec .u32)] fun x => p152 N x.1 x.2.1 x.2.2.1

def tab152 : List (Nat × Head) := [
    (3, ⟨⟨173, [(3, .u (.c (.ptr0 4000000 0))), (4, .u (.c (.ptr0 4000001 0))), (5, .u (.c (.ptr0 4000002 0))), (6, .u (.c (.ptr0 4000003 0))), (7, .u (.c (.ptr0 4000004 0))), (8, .u (.c (.int)))], [(4000000, ⟨false, 8, 28, .vec .u32⟩), (4000001, ⟨false, 64, 29, .vec .u8⟩), (4000002, ⟨false, 64, 172, .vec .u32⟩), (4000003, ⟨false, 8, 28, .vec .u32⟩), (4000004, ⟨false, 64, 172, .vec .u32⟩)]⟩, .exit 0⟩),
    (7, ⟨⟨173, [(3, .u (.c (.ptr0 8000000 0))), (5, .u (.c (.ptr0 8000001 0))), (6, .u (.c (.ptr0 8000002 0))), (7, .u (.c (.ptr0 8000003 0))), (9, .u (.c (.int)))], [(8000000, ⟨false, 8, 28, .vec .u32⟩), (8000001, ⟨false, 64, 172, .vec .u32⟩), (8000002, ⟨false, 8, 28, .vec .u32⟩), (8000003, ⟨false, 64, 172, .vec .u32⟩)]⟩, .exit 2⟩),
    (13, ⟨⟨173, [(3, .u (.c (.ptr0 14000000 0))), (5, .u (.c (.ptr0 14000001 0))), (6, .u (.c (.ptr0 14000002 0))), (7, .u (.c (.ptr0 14000003 0))), (12, .u (.c (.ptr0 14000004 0))), (13, .u (.c (.int)))], [(14000000, ⟨false, 8, 28, .vec .u32⟩), (14000001, ⟨false, 64, 172, .vec .u32⟩), (14000002, ⟨false, 8, 28, .vec .u32⟩), (14000003, ⟨false, 64, 172, .vec .u32⟩), (14000004, ⟨false, 8, 28, .vec .u32⟩)]⟩, .exit 4⟩),
    (20, ⟨⟨173, [(3, .u (.c (.ptr0 21000000 0))), (6, .u (.c (.ptr0 21000001 0))), (12, .u (.c (.ptr0 21000002 0))), (18, .u (.c (.int)))], [(21000000, ⟨false, 8, 28, .vec .u32⟩), (21000001, ⟨false, 8, 28, .vec .u32⟩), (21000002, ⟨false, 8, 28, .vec .u32⟩)]⟩, .exit 6⟩)]

def env152 (N : Nat) : List (Nat × Sg) := [(209, g209 N)]

theorem env152_ok (N : Nat) : EnvOK Try.prog pd.els (env152 N) := ⟨g209_ok N, trivial⟩

theorem g152_ok (N : Nat) : SgOK Try.prog pd.els 152 (g152 N) :=
  sgK_ok pd_ok (env_look (env152_ok N)) Try.func152 (name_ne (by kernel_rfl)) [(K.vec .u32), (K.vec .u8), (K.vec .u32)] [(K.vec .u32)] _ N tab152 4 fun x => by kernel_rfl

/-! #### 49 -/

def p49 (N : Nat) (h0 : List UInt32) (b1 : List UInt8) : Option (List UInt32 × Unit) :=
  must (Nat.beq (List.length h0) (8 : Nat)) (must (Nat.beq (List.length b1) (64 : Nat)) (Option.bind (p151 N) fun r0 => Option.bind (p152 N h0 b1 (Prod.fst r0)) fun r1 => must (Nat.beq (List.length (Prod.fst r1)) (8 : Nat)) (some ((Prod.fst r1, ())))))

def g49 (N : Nat) : Sg := sgK [(K.vec .u32), (K.vec .u8)] [(K.vec .u32)] fun x => p49 N x.1 x.2.1

def tab49 : List (Nat × Head) := [
    ]

def env49 (N : Nat) : List (Nat × Sg) := [(151, g151 N), (152, g152 N)]

theorem env49_ok (N : Nat) : EnvOK Try.prog pd.els (env49 N) := ⟨g151_ok N, ⟨g152_ok N, trivial⟩⟩

theorem g49_ok (N : Nat) : SgOK Try.prog pd.els 49 (g49 N) :=
  sgK_ok pd_ok (env_look (env49_ok N)) Try.func49 (name_ne (by kernel_rfl)) [(K.vec .u32), (K.vec .u8)] [(K.vec .u32)] _ N tab49 4 fun x => by kernel_rfl

/-! #### 46 -/

def b46_18 (N : Nat) (A_18 : Int → (List UInt8) → (List UInt32) → (List UInt8) → Option (List UInt8 × Unit)) (i10 : Int) (ob0 : List UInt8) (ob1 : List UInt32) (ob2 : List UInt8) : Option (List UInt8 × Unit) :=
  cond (hide (ltI i10 (32 : Int))) (must (leI (0 : Int) (hide (wr (Int.tdiv i10 (4 : Int)))) && ltI (hide (wr (Int.tdiv i10 (4 : Int)))) (↑(8 : Nat) : Int)) (must (leI (0 : Int) (hide (wr ((24 : Int) - hide (wr ((8 : Int) * hide (Int.tmod i10 (4 : Int)))))))) (must (ltI (hide (wr ((24 : Int) - hide (wr ((8 : Int) * hide (Int.tmod i10 (4 : Int))))))) (18446744073709551616 : Int)) (must (leI (0 : Int) i10 && ltI i10 (↑(32 : Nat) : Int)) (A_18 (hide (wr (i10 + (1 : Int)))) ob0 ob1 (setL ob2 (Int.toNat i10) (hide (UInt8.ofNat (UInt32.toNat (hide (shr32 (List.getD ob1 (Int.toNat (hide (wr (Int.tdiv i10 (4 : Int))))) (0 : UInt32)) (UInt64.toNat (UInt64.ofNat (Int.toNat (hide (wr ((24 : Int) - hide (wr ((8 : Int) * hide (Int.tmod i10 (4 : Int))))))))))))))))))))) (must (Nat.beq (List.length ob2) (32 : Nat)) (some ((ob2, ()))))

def l46_18 (N : Nat) (n : Nat) (i10 : Int) (ob0 : List UInt8) (ob1 : List UInt32) (ob2 : List UInt8) : Option (List UInt8 × Unit) :=
  loopN (fun A x => b46_18 N (fun i10 ob0 ob1 ob2 => A (((), ((), ((), (i10, ())))), (ob0, (ob1, (ob2, ()))))) x.1.2.2.2.1 x.2.1 x.2.2.1 x.2.2.2.1) n (((), ((), ((), (i10, ())))), (ob0, (ob1, (ob2, ()))))

theorem l46_18_zero (N : Nat) (i10 : Int) (ob0 : List UInt8) (ob1 : List UInt32) (ob2 : List UInt8) : l46_18 N 0 i10 ob0 ob1 ob2 = none := rfl

theorem l46_18_succ (N : Nat) (n : Nat) (i10 : Int) (ob0 : List UInt8) (ob1 : List UInt32) (ob2 : List UInt8) : l46_18 N (n + 1) i10 ob0 ob1 ob2 = b46_18 N (l46_18 N n) i10 ob0 ob1 ob2 := rfl

def b46_11 (N : Nat) (A_11 : Int → (List UInt8) → (List UInt8) → (List UInt32) → (List UInt32) → Option (List UInt8 × Unit)) (i7 : Int) (b0o : List UInt8) (ob1 : List UInt8) (ob2 : List UInt32) (ob3 : List UInt32) : Option (List UInt8 × Unit) :=
  cond (hide (ltI i7 (↑(List.length b0o) : Int))) (must (leI (0 : Int) i7 && (leI i7 (hide (wr (i7 + (64 : Int)))) && leI (hide (wr (i7 + (64 : Int)))) (↑(List.length b0o) : Int))) (Option.bind (p152 N ob2 (splice [(0 : UInt8), (0 : UInt8), (0 : UInt8), (0 : UInt8), (0 : UInt8), (0 : UInt8), (0 : UInt8), (0 : UInt8), (0 : UInt8), (0 : UInt8), (0 : UInt8), (0 : UInt8), (0 : UInt8), (0 : UInt8), (0 : UInt8), (0 : UInt8), (0 : UInt8), (0 : UInt8), (0 : UInt8), (0 : UInt8), (0 : UInt8), (0 : UInt8), (0 : UInt8), (0 : UInt8), (0 : UInt8), (0 : UInt8), (0 : UInt8), (0 : UInt8), (0 : UInt8), (0 : UInt8), (0 : UInt8), (0 : UInt8), (0 : UInt8), (0 : UInt8), (0 : UInt8), (0 : UInt8), (0 : UInt8), (0 : UInt8), (0 : UInt8), (0 : UInt8), (0 : UInt8), (0 : UInt8), (0 : UInt8), (0 : UInt8), (0 : UInt8), (0 : UInt8), (0 : UInt8), (0 : UInt8), (0 : UInt8), (0 : UInt8), (0 : UInt8), (0 : UInt8), (0 : UInt8), (0 : UInt8), (0 : UInt8), (0 : UInt8), (0 : UInt8), (0 : UInt8), (0 : UInt8), (0 : UInt8), (0 : UInt8), (0 : UInt8), (0 : UInt8), (0 : UInt8)] (Int.toNat (0 : Int)) (List.take (Int.toNat ((↑(64 : Nat) : Int) - (0 : Int))) (List.take (Int.toNat (hide (wr (i7 + (64 : Int))) - i7)) (List.drop (Int.toNat i7) b0o)))) ob3) fun r0 => must (Nat.beq (List.length (Prod.fst r0)) (8 : Nat)) (A_11 (hide (wr (i7 + (64 : Int)))) b0o ob1 (Prod.fst r0) ob3))) (l46_18 N N ((0 : Int)) ob1 ob2 ([(0 : UInt8), (0 : UInt8), (0 : UInt8), (0 : UInt8), (0 : UInt8), (0 : UInt8), (0 : UInt8), (0 : UInt8), (0 : UInt8), (0 : UInt8), (0 : UInt8), (0 : UInt8), (0 : UInt8), (0 : UInt8), (0 : UInt8), (0 : UInt8), (0 : UInt8), (0 : UInt8), (0 : UInt8), (0 : UInt8), (0 : UInt8), (0 : UInt8), (0 : UInt8), (0 : UInt8), (0 : UInt8), (0 : UInt8), (0 : UInt8), (0 : UInt8), (0 : UInt8), (0 : UInt8), (0 : UInt8), (0 : UInt8)]))

def l46_11 (N : Nat) (n : Nat) (i7 : Int) (b0o : List UInt8) (ob1 : List UInt8) (ob2 : List UInt32) (ob3 : List UInt32) : Option (List UInt8 × Unit) :=
  loopN (fun A x => b46_11 N (fun i7 b0o ob1 ob2 ob3 => A (((), ((), ((), ((), (i7, ()))))), (b0o, (ob1, (ob2, (ob3, ())))))) x.1.2.2.2.2.1 x.2.1 x.2.2.1 x.2.2.2.1 x.2.2.2.2.1) n (((), ((), ((), ((), (i7, ()))))), (b0o, (ob1, (ob2, (ob3, ())))))

theorem l46_11_zero (N : Nat) (i7 : Int) (b0o : List UInt8) (ob1 : List UInt8) (ob2 : List UInt32) (ob3 : List UInt32) : l46_11 N 0 i7 b0o ob1 ob2 ob3 = none := rfl

theorem l46_11_succ (N : Nat) (n : Nat) (i7 : Int) (b0o : List UInt8) (ob1 : List UInt8) (ob2 : List UInt32) (ob3 : List UInt32) : l46_11 N (n + 1) i7 b0o ob1 ob2 ob3 = b46_11 N (l46_11 N n) i7 b0o ob1 ob2 ob3 := rfl

def b46_6 (N : Nat) (A_6 : UInt64 → Int → (List UInt8) → (List UInt8) → Option (List UInt8 × Unit)) (n3 : UInt64) (i4 : Int) (b0o : List UInt8) (ob1 : List UInt8) : Option (List UInt8 × Unit) :=
  cond (hide (leI (0 : Int) i4)) (must (leI (0 : Int) (hide (wr ((8 : Int) * i4)))) (must (ltI (hide (wr ((8 : Int) * i4))) (18446744073709551616 : Int)) (must (leN ((List.length b0o + List.length [hide (UInt8.ofNat (UInt64.toNat (hide (shr64 n3 (UInt64.toNat (UInt64.ofNat (Int.toNat (hide (wr ((8 : Int) * i4))))))))))]) * (1 : Nat)) (140737488355328 : Nat)) (A_6 n3 (hide (wr (i4 - (1 : Int)))) (b0o ++ [hide (UInt8.ofNat (UInt64.toNat (hide (shr64 n3 (UInt64.toNat (UInt64.ofNat (Int.toNat (hide (wr ((8 : Int) * i4))))))))))]) ob1)))) (Option.bind (p50 N) fun r0 => Option.bind (p151 N) fun r1 => must (Nat.beq (List.length (Prod.fst r0)) (8 : Nat)) (must (Nat.beq (List.length (Prod.fst r1)) (64 : Nat)) (l46_11 N N ((0 : Int)) b0o ob1 (Prod.fst r0) (Prod.fst r1))))

def l46_6 (N : Nat) (n : Nat) (n3 : UInt64) (i4 : Int) (b0o : List UInt8) (ob1 : List UInt8) : Option (List UInt8 × Unit) :=
  loopN (fun A x => b46_6 N (fun n3 i4 b0o ob1 => A (((), ((), (n3, (i4, ())))), (b0o, (ob1, ())))) x.1.2.2.1 x.1.2.2.2.1 x.2.1 x.2.2.1) n (((), ((), (n3, (i4, ())))), (b0o, (ob1, ())))

theorem l46_6_zero (N : Nat) (n3 : UInt64) (i4 : Int) (b0o : List UInt8) (ob1 : List UInt8) : l46_6 N 0 n3 i4 b0o ob1 = none := rfl

theorem l46_6_succ (N : Nat) (n : Nat) (n3 : UInt64) (i4 : Int) (b0o : List UInt8) (ob1 : List UInt8) : l46_6 N (n + 1) n3 i4 b0o ob1 = b46_6 N (l46_6 N n) n3 i4 b0o ob1 := rfl

def b46_3 (N : Nat) (A_3 : UInt64 → (List UInt8) → (List UInt8) → Option (List UInt8 × Unit)) (n3 : UInt64) (b0o : List UInt8) (ob1 : List UInt8) : Option (List UInt8 × Unit) :=
  cond (hide !eqI (hide (Int.tmod (↑(List.length b0o) : Int) (64 : Int))) (56 : Int)) (must (leN ((List.length b0o + List.length [(0 : UInt8)]) * (1 : Nat)) (140737488355328 : Nat)) (A_3 n3 (b0o ++ [(0 : UInt8)]) ob1)) (l46_6 N N n3 ((7 : Int)) b0o ob1)

def l46_3 (N : Nat) (n : Nat) (n3 : UInt64) (b0o : List UInt8) (ob1 : List UInt8) : Option (List UInt8 × Unit) :=
  loopN (fun A x => b46_3 N (fun n3 b0o ob1 => A (((), ((), (n3, ()))), (b0o, (ob1, ())))) x.1.2.2.1 x.2.1 x.2.2.1) n (((), ((), (n3, ()))), (b0o, (ob1, ())))

theorem l46_3_zero (N : Nat) (n3 : UInt64) (b0o : List UInt8) (ob1 : List UInt8) : l46_3 N 0 n3 b0o ob1 = none := rfl

theorem l46_3_succ (N : Nat) (n : Nat) (n3 : UInt64) (b0o : List UInt8) (ob1 : List UInt8) : l46_3 N (n + 1) n3 b0o ob1 = b46_3 N (l46_3 N n) n3 b0o ob1 := rfl

def p46 (N : Nat) (b0 : List UInt8) : Option (List UInt8 × Unit) :=
  must (leN (((0 : Nat) + List.length b0) * (1 : Nat)) (140737488355328 : Nat)) (must (leN ((List.length b0 + List.length [(128 : UInt8)]) * (1 : Nat)) (140737488355328 : Nat)) (l46_3 N N (hide (hide (u64I (↑(List.length b0) : Int)) * (8 : UInt64))) (b0 ++ [(128 : UInt8)]) ([(0 : UInt8), (0 : UInt8), (0 : UInt8), (0 : UInt8), (0 : UInt8), (0 : UInt8), (0 : UInt8), (0 : UInt8), (0 : UInt8), (0 : UInt8), (0 : UInt8), (0 : UInt8), (0 : UInt8), (0 : UInt8), (0 : UInt8), (0 : UInt8), (0 : UInt8), (0 : UInt8), (0 : UInt8), (0 : UInt8), (0 : UInt8), (0 : UInt8), (0 : UInt8), (0 : UInt8), (0 : UInt8), (0 : UInt8), (0 : UInt8), (0 : UInt8), (0 : UInt8), (0 : UInt8), (0 : UInt8), (0 : UInt8)])))

def g46 (N : Nat) : Sg := sgK [(K.ro .u8)] [(K.vec .u8)] fun x => p46 N x.1

def tab46 : List (Nat × Head) := [
    (3, ⟨⟨75, [(0, .u (.c (.row 4000000))), (2, .u (.c (.ptr0 4000001 0))), (3, .u (.c (.u64)))], [(4000000, ⟨true, 0, 5, .vec .u8⟩), (4000001, ⟨false, 32, 22, .vec .u8⟩)]⟩, .exit 0⟩),
    (6, ⟨⟨75, [(0, .u (.c (.row 7000000))), (2, .u (.c (.ptr0 7000001 0))), (3, .u (.c (.u64))), (4, .u (.c (.int)))], [(7000000, ⟨true, 0, 5, .vec .u8⟩), (7000001, ⟨false, 32, 22, .vec .u8⟩)]⟩, .exit 2⟩),
    (11, ⟨⟨75, [(0, .u (.c (.row 12000000))), (2, .u (.c (.ptr0 12000001 0))), (5, .u (.c (.ptr0 12000002 0))), (6, .u (.c (.ptr0 12000003 0))), (7, .u (.c (.int)))], [(12000000, ⟨true, 0, 5, .vec .u8⟩), (12000001, ⟨false, 32, 22, .vec .u8⟩), (12000002, ⟨false, 8, 28, .vec .u32⟩), (12000003, ⟨false, 64, 172, .vec .u32⟩)]⟩, .exit 4⟩),
    (18, ⟨⟨75, [(2, .u (.c (.ptr0 19000000 0))), (5, .u (.c (.ptr0 19000001 0))), (9, .u (.c (.ptr0 19000002 0))), (10, .u (.c (.int)))], [(19000000, ⟨false, 32, 22, .vec .u8⟩), (19000001, ⟨false, 8, 28, .vec .u32⟩), (19000002, ⟨false, 32, 22, .vec .u8⟩)]⟩, .exit 6⟩)]

def env46 (N : Nat) : List (Nat × Sg) := [(50, g50 N), (151, g151 N), (152, g152 N)]

theorem env46_ok (N : Nat) : EnvOK Try.prog pd.els (env46 N) := ⟨g50_ok N, ⟨g151_ok N, ⟨g152_ok N, trivial⟩⟩⟩

theorem g46_ok (N : Nat) : SgOK Try.prog pd.els 46 (g46 N) :=
  sgK_ok pd_ok (env_look (env46_ok N)) Try.func46 (name_ne (by kernel_rfl)) [(K.ro .u8)] [(K.vec .u8)] _ N tab46 4 fun x => by kernel_rfl

/-! #### 43 -/

def p43 (N : Nat) : Option (Bool × Unit) :=
  Option.bind (p42 N []) fun r0 => must (Nat.beq (List.length (Prod.fst r0)) (32 : Nat)) (cond (hide (List.getD (Prod.fst r0) (0 : Nat) (0 : UInt8) == (227 : UInt8))) (cond (hide (List.getD (Prod.fst r0) (1 : Nat) (0 : UInt8) == (176 : UInt8))) (some ((hide (List.getD (Prod.fst r0) (31 : Nat) (0 : UInt8) == (85 : UInt8)), ()))) (some ((false, ())))) (some ((false, ()))))

def g43 (N : Nat) : Sg := sgK [] [K.bool] fun x => p43 N 

def tab43 : List (Nat × Head) := [
    ]

def env43 (N : Nat) : List (Nat × Sg) := [(42, g42 N)]

theorem env43_ok (N : Nat) : EnvOK Try.prog pd.els (env43 N) := ⟨g42_ok N, trivial⟩

theorem g43_ok (N : Nat) : SgOK Try.prog pd.els 43 (g43 N) :=
  sgK_ok pd_ok (env_look (env43_ok N)) Try.func43 (name_ne (by kernel_rfl)) [] [K.bool] _ N tab43 4 fun x => by kernel_rfl

/-! #### 44 -/

def b44_3 (N : Nat) (A_3 : Int → (List UInt8) → (List UInt8) → Option (List UInt8 × Unit)) (i4 : Int) (ob0 : List UInt8) (s3o : List UInt8) : Option (List UInt8 × Unit) :=
  cond (hide (ltI i4 (32 : Int))) (must (leI (0 : Int) i4 && ltI i4 (↑(32 : Nat) : Int)) (must (ltI (↑(UInt8.toNat (hide (List.getD ob0 (Int.toNat i4) (0 : UInt8) / (16 : UInt8)))) : Int) (↑(List.length [(48 : UInt8), (49 : UInt8), (50 : UInt8), (51 : UInt8), (52 : UInt8), (53 : UInt8), (54 : UInt8), (55 : UInt8), (56 : UInt8), (57 : UInt8), (97 : UInt8), (98 : UInt8), (99 : UInt8), (100 : UInt8), (101 : UInt8), (102 : UInt8)]) : Int)) (must (leI (0 : Int) i4 && ltI i4 (↑(32 : Nat) : Int)) (must (ltI (↑(UInt8.toNat (hide (List.getD ob0 (Int.toNat i4) (0 : UInt8) % (16 : UInt8)))) : Int) (↑(List.length [(48 : UInt8), (49 : UInt8), (50 : UInt8), (51 : UInt8), (52 : UInt8), (53 : UInt8), (54 : UInt8), (55 : UInt8), (56 : UInt8), (57 : UInt8), (97 : UInt8), (98 : UInt8), (99 : UInt8), (100 : UInt8), (101 : UInt8), (102 : UInt8)]) : Int)) (must (leN ((List.length s3o + List.length [List.getD [(48 : UInt8), (49 : UInt8), (50 : UInt8), (51 : UInt8), (52 : UInt8), (53 : UInt8), (54 : UInt8), (55 : UInt8), (56 : UInt8), (57 : UInt8), (97 : UInt8), (98 : UInt8), (99 : UInt8), (100 : UInt8), (101 : UInt8), (102 : UInt8)] (Int.toNat (↑(UInt8.toNat (hide (List.getD ob0 (Int.toNat i4) (0 : UInt8) / (16 : UInt8)))) : Int)) (0 : UInt8), List.getD [(48 : UInt8), (49 : UInt8), (50 : UInt8), (51 : UInt8), (52 : UInt8), (53 : UInt8), (54 : UInt8), (55 : UInt8), (56 : UInt8), (57 : UInt8), (97 : UInt8), (98 : UInt8), (99 : UInt8), (100 : UInt8), (101 : UInt8), (102 : UInt8)] (Int.toNat (↑(UInt8.toNat (hide (List.getD ob0 (Int.toNat i4) (0 : UInt8) % (16 : UInt8)))) : Int)) (0 : UInt8)]) * (1 : Nat)) (140737488355328 : Nat)) (A_3 (hide (wr (i4 + (1 : Int)))) ob0 (s3o ++ [List.getD [(48 : UInt8), (49 : UInt8), (50 : UInt8), (51 : UInt8), (52 : UInt8), (53 : UInt8), (54 : UInt8), (55 : UInt8), (56 : UInt8), (57 : UInt8), (97 : UInt8), (98 : UInt8), (99 : UInt8), (100 : UInt8), (101 : UInt8), (102 : UInt8)] (Int.toNat (↑(UInt8.toNat (hide (List.getD ob0 (Int.toNat i4) (0 : UInt8) / (16 : UInt8)))) : Int)) (0 : UInt8), List.getD [(48 : UInt8), (49 : UInt8), (50 : UInt8), (51 : UInt8), (52 : UInt8), (53 : UInt8), (54 : UInt8), (55 : UInt8), (56 : UInt8), (57 : UInt8), (97 : UInt8), (98 : UInt8), (99 : UInt8), (100 : UInt8), (101 : UInt8), (102 : UInt8)] (Int.toNat (↑(UInt8.toNat (hide (List.getD ob0 (Int.toNat i4) (0 : UInt8) % (16 : UInt8)))) : Int)) (0 : UInt8)]))))))) (some ((s3o, ())))

def l44_3 (N : Nat) (n : Nat) (i4 : Int) (ob0 : List UInt8) (s3o : List UInt8) : Option (List UInt8 × Unit) :=
  loopN (fun A x => b44_3 N (fun i4 ob0 s3o => A (((), ((), (i4, ()))), (ob0, (s3o, ())))) x.1.2.2.1 x.2.1 x.2.2.1) n (((), ((), (i4, ()))), (ob0, (s3o, ())))

theorem l44_3_zero (N : Nat) (i4 : Int) (ob0 : List UInt8) (s3o : List UInt8) : l44_3 N 0 i4 ob0 s3o = none := rfl

theorem l44_3_succ (N : Nat) (n : Nat) (i4 : Int) (ob0 : List UInt8) (s3o : List UInt8) : l44_3 N (n + 1) i4 ob0 s3o = b44_3 N (l44_3 N n) i4 ob0 s3o := rfl

def p44 (N : Nat) (d0 : List UInt8) : Option (List UInt8 × Unit) :=
  must (Nat.beq (List.length d0) (32 : Nat)) (l44_3 N N ((0 : Int)) d0 [])

def g44 (N : Nat) : Sg := sgK [(K.vec .u8)] [K.str] fun x => p44 N x.1

def tab44 : List (Nat × Head) := [
    (3, ⟨⟨24, [(1, .u (.c (.ptr0 4000000 0))), (3, .u (.c (.row 4000001))), (4, .u (.c (.int)))], [(4000000, ⟨false, 32, 22, .vec .u8⟩), (4000001, ⟨true, 0, 5, .vec .u8⟩)]⟩, .exit 0⟩)]

def env44 (N : Nat) : List (Nat × Sg) := []

theorem env44_ok (N : Nat) : EnvOK Try.prog pd.els (env44 N) := trivial

theorem g44_ok (N : Nat) : SgOK Try.prog pd.els 44 (g44 N) :=
  sgK_ok pd_ok (env_look (env44_ok N)) Try.func44 (name_ne (by kernel_rfl)) [(K.vec .u8)] [K.str] _ N tab44 4 fun x => by kernel_rfl

/-! #### 5 -/

def b5_19 (N : Nat) (A_19 : Int → (List UInt32) → (List UInt8) → Option (Bool × Unit)) (i9 : Int) (ob0 : List UInt32) (ob1 : List UInt8) : Option (Bool × Unit) :=
  cond (hide (ltI i9 (32 : Int))) (must (leI (0 : Int) i9 && ltI i9 (↑(32 : Nat) : Int)) (must (leI (0 : Int) (hide (wr (Int.tdiv i9 (4 : Int)))) && ltI (hide (wr (Int.tdiv i9 (4 : Int)))) (↑(8 : Nat) : Int)) (must (leI (0 : Int) (hide (wr ((24 : Int) - hide (wr ((8 : Int) * hide (Int.tmod i9 (4 : Int)))))))) (must (ltI (hide (wr ((24 : Int) - hide (wr ((8 : Int) * hide (Int.tmod i9 (4 : Int))))))) (18446744073709551616 : Int)) (cond (hide !List.getD ob1 (Int.toNat i9) (0 : UInt8) == hide (UInt8.ofNat (UInt32.toNat (hide (shr32 (List.getD ob0 (Int.toNat (hide (wr (Int.tdiv i9 (4 : Int))))) (0 : UInt32)) (UInt64.toNat (UInt64.ofNat (Int.toNat (hide (wr ((24 : Int) - hide (wr ((8 : Int) * hide (Int.tmod i9 (4 : Int))))))))))))))) (some ((false, ()))) (A_19 (hide (wr (i9 + (1 : Int)))) ob0 ob1)))))) (some ((true, ())))

def l5_19 (N : Nat) (n : Nat) (i9 : Int) (ob0 : List UInt32) (ob1 : List UInt8) : Option (Bool × Unit) :=
  loopN (fun A x => b5_19 N (fun i9 ob0 ob1 => A (((), ((), (i9, ()))), (ob0, (ob1, ())))) x.1.2.2.1 x.2.1 x.2.2.1) n (((), ((), (i9, ()))), (ob0, (ob1, ())))

theorem l5_19_zero (N : Nat) (i9 : Int) (ob0 : List UInt32) (ob1 : List UInt8) : l5_19 N 0 i9 ob0 ob1 = none := rfl

theorem l5_19_succ (N : Nat) (n : Nat) (i9 : Int) (ob0 : List UInt32) (ob1 : List UInt8) : l5_19 N (n + 1) i9 ob0 ob1 = b5_19 N (l5_19 N n) i9 ob0 ob1 := rfl

def b5_12 (N : Nat) (A_12 : (List UInt8) → Int → (List UInt8) → (List UInt32) → Option (Bool × Unit)) (b0 : List UInt8) (i6 : Int) (x3o : List UInt8) (ob1 : List UInt32) : Option (Bool × Unit) :=
  cond (hide (ltI i6 (↑(List.length x3o) : Int))) (must (leI (0 : Int) i6 && (leI i6 (hide (wr (i6 + (64 : Int)))) && leI (hide (wr (i6 + (64 : Int)))) (↑(List.length x3o) : Int))) (Option.bind (p48 N ob1 (splice [(0 : UInt8), (0 : UInt8), (0 : UInt8), (0 : UInt8), (0 : UInt8), (0 : UInt8), (0 : UInt8), (0 : UInt8), (0 : UInt8), (0 : UInt8), (0 : UInt8), (0 : UInt8), (0 : UInt8), (0 : UInt8), (0 : UInt8), (0 : UInt8), (0 : UInt8), (0 : UInt8), (0 : UInt8), (0 : UInt8), (0 : UInt8), (0 : UInt8), (0 : UInt8), (0 : UInt8), (0 : UInt8), (0 : UInt8), (0 : UInt8), (0 : UInt8), (0 : UInt8), (0 : UInt8), (0 : UInt8), (0 : UInt8), (0 : UInt8), (0 : UInt8), (0 : UInt8), (0 : UInt8), (0 : UInt8), (0 : UInt8), (0 : UInt8), (0 : UInt8), (0 : UInt8), (0 : UInt8), (0 : UInt8), (0 : UInt8), (0 : UInt8), (0 : UInt8), (0 : UInt8), (0 : UInt8), (0 : UInt8), (0 : UInt8), (0 : UInt8), (0 : UInt8), (0 : UInt8), (0 : UInt8), (0 : UInt8), (0 : UInt8), (0 : UInt8), (0 : UInt8), (0 : UInt8), (0 : UInt8), (0 : UInt8), (0 : UInt8), (0 : UInt8), (0 : UInt8)] (Int.toNat (0 : Int)) (List.take (Int.toNat ((↑(64 : Nat) : Int) - (0 : Int))) (List.take (Int.toNat (hide (wr (i6 + (64 : Int))) - i6)) (List.drop (Int.toNat i6) x3o))))) fun r1 => must (Nat.beq (List.length (Prod.fst r1)) (8 : Nat)) (A_12 b0 (hide (wr (i6 + (64 : Int)))) x3o (Prod.fst r1)))) (Option.bind (p42 N b0) fun r0 => must (Nat.beq (List.length (Prod.fst r0)) (32 : Nat)) (l5_19 N N ((0 : Int)) ob1 (Prod.fst r0)))

def l5_12 (N : Nat) (n : Nat) (b0 : List UInt8) (i6 : Int) (x3o : List UInt8) (ob1 : List UInt32) : Option (Bool × Unit) :=
  loopN (fun A x => b5_12 N (fun b0 i6 x3o ob1 => A ((b0, ((), ((), (i6, ())))), (x3o, (ob1, ())))) x.1.1 x.1.2.2.2.1 x.2.1 x.2.2.1) n ((b0, ((), ((), (i6, ())))), (x3o, (ob1, ())))

theorem l5_12_zero (N : Nat) (b0 : List UInt8) (i6 : Int) (x3o : List UInt8) (ob1 : List UInt32) : l5_12 N 0 b0 i6 x3o ob1 = none := rfl

theorem l5_12_succ (N : Nat) (n : Nat) (b0 : List UInt8) (i6 : Int) (x3o : List UInt8) (ob1 : List UInt32) : l5_12 N (n + 1) b0 i6 x3o ob1 = b5_12 N (l5_12 N n) b0 i6 x3o ob1 := rfl

def b5_6 (N : Nat) (A_6 : (List UInt8) → (List UInt8) → Option (Bool × Unit)) (b0 : List UInt8) (x3o : List UInt8) : Option (Bool × Unit) :=
  cond (hide !eqI (hide (Int.tmod (↑(List.length x3o) : Int) (64 : Int))) (56 : Int)) (must (leN ((List.length x3o + List.length [(0 : UInt8)]) * (1 : Nat)) (140737488355328 : Nat)) (A_6 b0 (x3o ++ [(0 : UInt8)]))) (must (leN ((List.length x3o + List.length [(0 : UInt8), (0 : UInt8), (0 : UInt8), (0 : UInt8), (0 : UInt8), (0 : UInt8), hide (u8I (hide (shrI (hide (wr ((↑(List.length b0) : Int) * (8 : Int)))) (UInt64.toNat (8 : UInt64))))), hide (u8I (hide (wr ((↑(List.length b0) : Int) * (8 : Int)))))]) * (1 : Nat)) (140737488355328 : Nat)) (Option.bind (p50 N) fun r0 => must (Nat.beq (List.length (Prod.fst r0)) (8 : Nat)) (l5_12 N N b0 ((0 : Int)) (x3o ++ [(0 : UInt8), (0 : UInt8), (0 : UInt8), (0 : UInt8), (0 : UInt8), (0 : UInt8), hide (u8I (hide (shrI (hide (wr ((↑(List.length b0) : Int) * (8 : Int)))) (UInt64.toNat (8 : UInt64))))), hide (u8I (hide (wr ((↑(List.length b0) : Int) * (8 : Int)))))]) (Prod.fst r0))))

def l5_6 (N : Nat) (n : Nat) (b0 : List UInt8) (x3o : List UInt8) : Option (Bool × Unit) :=
  loopN (fun A x => b5_6 N (fun b0 x3o => A ((b0, ((), ())), (x3o, ()))) x.1.1 x.2.1) n ((b0, ((), ())), (x3o, ()))

theorem l5_6_zero (N : Nat) (b0 : List UInt8) (x3o : List UInt8) : l5_6 N 0 b0 x3o = none := rfl

theorem l5_6_succ (N : Nat) (n : Nat) (b0 : List UInt8) (x3o : List UInt8) : l5_6 N (n + 1) b0 x3o = b5_6 N (l5_6 N n) b0 x3o := rfl

def p5 (N : Nat) (b0 : List UInt8) : Option (Bool × Unit) :=
  Option.bind (p43 N) fun r0 => cond (hide !Prod.fst r0) (some ((false, ()))) (cond (hide (ltI (400 : Int) (↑(List.length b0) : Int))) (some ((true, ()))) (must (leN (((0 : Nat) + List.length b0) * (1 : Nat)) (140737488355328 : Nat)) (must (leN ((List.length b0 + List.length [(128 : UInt8)]) * (1 : Nat)) (140737488355328 : Nat)) (l5_6 N N b0 (b0 ++ [(128 : UInt8)])))))

def g5 (N : Nat) : Sg := sgK [(K.ro .u8)] [K.bool] fun x => p5 N x.1

def tab5 : List (Nat × Head) := [
    (6, ⟨⟨75, [(0, .u (.c (.ro .u8))), (3, .u (.c (.row 7000000)))], [(7000000, ⟨true, 0, 5, .vec .u8⟩)]⟩, .exit 0⟩),
    (12, ⟨⟨75, [(0, .u (.c (.ro .u8))), (3, .u (.c (.row 13000000))), (5, .u (.c (.ptr0 13000001 0))), (6, .u (.c (.int)))], [(13000000, ⟨true, 0, 5, .vec .u8⟩), (13000001, ⟨false, 8, 28, .vec .u32⟩)]⟩, .exit 2⟩),
    (19, ⟨⟨75, [(5, .u (.c (.ptr0 20000000 0))), (8, .u (.c (.ptr0 20000001 0))), (9, .u (.c (.int)))], [(20000000, ⟨false, 8, 28, .vec .u32⟩), (20000001, ⟨false, 32, 22, .vec .u8⟩)]⟩, .exit 4⟩)]

def env5 (N : Nat) : List (Nat × Sg) := [(43, g43 N), (50, g50 N), (48, g48 N), (42, g42 N)]

theorem env5_ok (N : Nat) : EnvOK Try.prog pd.els (env5 N) := ⟨g43_ok N, ⟨g50_ok N, ⟨g48_ok N, ⟨g42_ok N, trivial⟩⟩⟩⟩

theorem g5_ok (N : Nat) : SgOK Try.prog pd.els 5 (g5 N) :=
  sgK_ok pd_ok (env_look (env5_ok N)) Try.func5 (name_ne (by kernel_rfl)) [(K.ro .u8)] [K.bool] _ N tab5 4 fun x => by kernel_rfl

end Go.Proofs.Ytgimohchocjgcaa.V
