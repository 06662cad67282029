/- What the program's functions compute, as plain functions; each one's contract. Printed by a program of this work. -/
import Derived.Test.YtgimohchocjgcaaVX0
import Derived.KernelRfl
set_option linter.unusedVariables false
namespace Go.Proofs.Ytgimohchocjgcaa.V

/-! #### 158 -/

def b158_2 (N : Nat) (A_2 : (List UInt64) → Int → Option (List UInt64 × Unit)) (a0 : List UInt64) (n3 : Int) : Option (List UInt64 × Unit) :=
  cond (hide (ltI (0 : Int) n3)) (must (leI (0 : Int) (hide (wr (n3 - (1 : Int)))) && ltI (hide (wr (n3 - (1 : Int)))) (↑(List.length a0) : Int)) (cond (hide (List.getD a0 (Int.toNat (hide (wr (n3 - (1 : Int))))) (0 : UInt64) == (0 : UInt64))) (A_2 a0 (hide (wr (n3 - (1 : Int))))) (must (leI (0 : Int) n3 && leI n3 (↑(List.length a0) : Int)) (must (leN (((0 : Nat) + List.length (List.take (Int.toNat (n3 - (0 : Int))) a0)) * (8 : Nat)) (140737488355328 : Nat)) (some ((List.take (Int.toNat (n3 - (0 : Int))) a0, ()))))))) (must (leI (0 : Int) n3 && leI n3 (↑(List.length a0) : Int)) (must (leN (((0 : Nat) + List.length (List.take (Int.toNat (n3 - (0 : Int))) a0)) * (8 : Nat)) (140737488355328 : Nat)) (some ((List.take (Int.toNat (n3 - (0 : Int))) a0, ())))))

def l158_2 (N : Nat) (n : Nat) (a0 : List UInt64) (n3 : Int) : Option (List UInt64 × Unit) :=
  loopN (fun A x => b158_2 N (fun a0 n3 => A ((a0, (n3, ())), ())) x.1.1 x.1.2.1) n ((a0, (n3, ())), ())

theorem l158_2_zero (N : Nat) (a0 : List UInt64) (n3 : Int) : l158_2 N 0 a0 n3 = none := rfl

theorem l158_2_succ (N : Nat) (n : Nat) (a0 : List UInt64) (n3 : Int) : l158_2 N (n + 1) a0 n3 = b158_2 N (l158_2 N n) a0 n3 := rfl

def p158 (N : Nat) (a0 : List UInt64) : Option (List UInt64 × Unit) :=
  l158_2 N N a0 ((↑(List.length a0) : Int))

def g158 (N : Nat) : Sg := sgK [(K.ro .u64)] [(K.ro .u64)] fun x => p158 N x.1

def tab158 : List (Nat × Head) := [
    (2, ⟨⟨23, [(0, .u (.c (.ro .u64))), (3, .u (.c (.int)))], []⟩, .exit 0⟩)]

def env158 (N : Nat) : List (Nat × Sg) := []

theorem env158_ok (N : Nat) : EnvOK Try.prog pd.els (env158 N) := trivial

theorem g158_ok (N : Nat) : SgOK Try.prog pd.els 158 (g158 N) :=
  sgK_ok pd_ok (env_look (env158_ok N)) Try.func158 (name_ne (by kernel_rfl)) [(K.ro .u64)] [(K.ro .u64)] _ N tab158 4 fun x => by kernel_rfl

/-! #### 160 -/

def p160 (N : Nat) (a0 : List UInt64) (i1 : Int) : Option (UInt64 × Unit) :=
  cond (hide (ltI i1 (↑(List.length a0) : Int))) (must (leI (0 : Int) i1 && ltI i1 (↑(List.length a0) : Int)) (some ((List.getD a0 (Int.toNat i1) (0 : UInt64), ())))) (some (((0 : UInt64), ())))

def g160 (N : Nat) : Sg := sgK [(K.ro .u64), K.int] [K.u64] fun x => p160 N x.1 x.2.1

def tab160 : List (Nat × Head) := [
    ]

def env160 (N : Nat) : List (Nat × Sg) := []

theorem env160_ok (N : Nat) : EnvOK Try.prog pd.els (env160 N) := trivial

theorem g160_ok (N : Nat) : SgOK Try.prog pd.els 160 (g160 N) :=
  sgK_ok pd_ok (env_look (env160_ok N)) Try.func160 (name_ne (by kernel_rfl)) [(K.ro .u64), K.int] [K.u64] _ N tab160 4 fun x => by kernel_rfl

/-! #### 61 -/

def b61_1000 (N : Nat) (A_1000 : (List UInt64) → (List UInt64) → Int → Option (Int × Unit)) (a0 : List UInt64) (b1 : List UInt64) (i5 : Int) : Option (Int × Unit) :=
  cond (hide (ltI (hide (wr (i5 - (1 : Int)))) (0 : Int))) (some (((0 : Int), ()))) (Option.bind (p160 N a0 (hide (wr (i5 - (1 : Int))))) fun r0 => Option.bind (p160 N b1 (hide (wr (i5 - (1 : Int))))) fun r1 => cond (hide (ltN (UInt64.toNat (Prod.fst r0)) (UInt64.toNat (Prod.fst r1)))) (some (((-1 : Int), ()))) (cond (hide (ltN (UInt64.toNat (Prod.fst r1)) (UInt64.toNat (Prod.fst r0)))) (some (((1 : Int), ()))) (A_1000 a0 b1 (hide (wr (i5 - (1 : Int)))))))

def l61_1000 (N : Nat) (n : Nat) (a0 : List UInt64) (b1 : List UInt64) (i5 : Int) : Option (Int × Unit) :=
  loopN (fun A x => b61_1000 N (fun a0 b1 i5 => A ((a0, (b1, (i5, ()))), ())) x.1.1 x.1.2.1 x.1.2.2.1) n ((a0, (b1, (i5, ()))), ())

theorem l61_1000_zero (N : Nat) (a0 : List UInt64) (b1 : List UInt64) (i5 : Int) : l61_1000 N 0 a0 b1 i5 = none := rfl

theorem l61_1000_succ (N : Nat) (n : Nat) (a0 : List UInt64) (b1 : List UInt64) (i5 : Int) : l61_1000 N (n + 1) a0 b1 i5 = b61_1000 N (l61_1000 N n) a0 b1 i5 := rfl

def p61 (N : Nat) (a0 : List UInt64) (b1 : List UInt64) : Option (Int × Unit) :=
  l61_1000 N N a0 b1 (mxI (↑(List.length a0) : Int) (↑(List.length b1) : Int))

def g61 (N : Nat) : Sg := sgK [(K.ro .u64), (K.ro .u64)] [K.int] fun x => p61 N x.1 x.2.1

def tab61 : List (Nat × Head) := [
    (1000, ⟨⟨31, [(0, .u (.c (.ro .u64))), (1, .u (.c (.ro .u64))), (5, .u (.c (.int)))], []⟩, .fall⟩)]

def env61 (N : Nat) : List (Nat × Sg) := [(160, g160 N)]

theorem env61_ok (N : Nat) : EnvOK Try.prog pd.els (env61 N) := ⟨g160_ok N, trivial⟩

theorem g61_ok (N : Nat) : SgOK Try.prog pd.els 61 (g61 N) :=
  sgK_ok pd_ok (env_look (env61_ok N)) Try.func61 (name_ne (by kernel_rfl)) [(K.ro .u64), (K.ro .u64)] [K.int] _ N tab61 4 fun x => by kernel_rfl

/-! #### 62 -/

def b62_5 (N : Nat) (A_5 : (List UInt64) → (List UInt64) → Int → UInt64 → Int → Int → (List UInt64) → Option (List UInt64 × Unit)) (a0 : List UInt64) (b1 : List UInt64) (n5 : Int) (carry7 : UInt64) (t17 : Int) (t18 : Int) (out6o : List UInt64) : Option (List UInt64 × Unit) :=
  cond (hide (ltI t18 t17)) (Option.bind (p160 N a0 t18) fun r1 => Option.bind (p160 N b1 t18) fun r2 => Option.bind (kAdd (Prod.fst r1) (Prod.fst r2) carry7) fun r3 => must (leI (0 : Int) t18 && ltI t18 (↑(List.length out6o) : Int)) (A_5 a0 b1 n5 (Prod.snd r3) t17 (hide (wr (t18 + (1 : Int)))) (setL out6o (Int.toNat t18) (Prod.fst r3)))) (must (leI (0 : Int) n5 && ltI n5 (↑(List.length out6o) : Int)) (Option.bind (p158 N (setL out6o (Int.toNat n5) carry7)) fun r0 => some ((Prod.fst r0, ()))))

def l62_5 (N : Nat) (n : Nat) (a0 : List UInt64) (b1 : List UInt64) (n5 : Int) (carry7 : UInt64) (t17 : Int) (t18 : Int) (out6o : List UInt64) : Option (List UInt64 × Unit) :=
  loopN (fun A x => b62_5 N (fun a0 b1 n5 carry7 t17 t18 out6o => A ((a0, (b1, (n5, ((), (carry7, (t17, (t18, ()))))))), (out6o, ()))) x.1.1 x.1.2.1 x.1.2.2.1 x.1.2.2.2.2.1 x.1.2.2.2.2.2.1 x.1.2.2.2.2.2.2.1 x.2.1) n ((a0, (b1, (n5, ((), (carry7, (t17, (t18, ()))))))), (out6o, ()))

theorem l62_5_zero (N : Nat) (a0 : List UInt64) (b1 : List UInt64) (n5 : Int) (carry7 : UInt64) (t17 : Int) (t18 : Int) (out6o : List UInt64) : l62_5 N 0 a0 b1 n5 carry7 t17 t18 out6o = none := rfl

theorem l62_5_succ (N : Nat) (n : Nat) (a0 : List UInt64) (b1 : List UInt64) (n5 : Int) (carry7 : UInt64) (t17 : Int) (t18 : Int) (out6o : List UInt64) : l62_5 N (n + 1) a0 b1 n5 carry7 t17 t18 out6o = b62_5 N (l62_5 N n) a0 b1 n5 carry7 t17 t18 out6o := rfl

def p62 (N : Nat) (a0 : List UInt64) (b1 : List UInt64) : Option (List UInt64 × Unit) :=
  must (leI (0 : Int) (hide (wr (mxI (↑(List.length a0) : Int) (↑(List.length b1) : Int) + (1 : Int)))) && (eqI (hide (wr (mxI (↑(List.length a0) : Int) (↑(List.length b1) : Int) + (1 : Int)))) (hide (wr (mxI (↑(List.length a0) : Int) (↑(List.length b1) : Int) + (1 : Int)))) && leN (Int.toNat (hide (wr (mxI (↑(List.length a0) : Int) (↑(List.length b1) : Int) + (1 : Int)))) * (8 : Nat)) (140737488355328 : Nat))) (l62_5 N N a0 b1 (mxI (↑(List.length a0) : Int) (↑(List.length b1) : Int)) ((0 : UInt64)) (mxI (↑(List.length a0) : Int) (↑(List.length b1) : Int)) ((0 : Int)) (List.replicate (Int.toNat (hide (wr (mxI (↑(List.length a0) : Int) (↑(List.length b1) : Int) + (1 : Int))))) (0 : UInt64)))

def g62 (N : Nat) : Sg := sgK [(K.ro .u64), (K.ro .u64)] [(K.ro .u64)] fun x => p62 N x.1 x.2.1

def tab62 : List (Nat × Head) := [
    (5, ⟨⟨42, [(0, .u (.c (.ro .u64))), (1, .u (.c (.ro .u64))), (5, .u (.c (.int))), (6, .u (.c (.row 6000000))), (7, .u (.c (.u64))), (17, .u (.c (.int))), (18, .u (.c (.int)))], [(6000000, ⟨true, 0, 42, .vec .u64⟩)]⟩, .exit 0⟩)]

def env62 (N : Nat) : List (Nat × Sg) := [(160, g160 N), (164, sg3 kAdd), (158, g158 N)]

theorem env62_ok (N : Nat) : EnvOK Try.prog pd.els (env62 N) := ⟨g160_ok N, ⟨e164_ok, ⟨g158_ok N, trivial⟩⟩⟩

theorem g62_ok (N : Nat) : SgOK Try.prog pd.els 62 (g62 N) :=
  sgK_ok pd_ok (env_look (env62_ok N)) Try.func62 (name_ne (by kernel_rfl)) [(K.ro .u64), (K.ro .u64)] [(K.ro .u64)] _ N tab62 4 fun x => by kernel_rfl

/-! #### 166 -/

def b166_4 (N : Nat) (A_4 : (List UInt64) → (List UInt64) → UInt64 → Int → Int → (List UInt64) → Option (List UInt64 × Unit)) (a0 : List UInt64) (b1 : List UInt64) (borrow6 : UInt64) (t12 : Int) (t13 : Int) (out5o : List UInt64) : Option (List UInt64 × Unit) :=
  cond (hide (ltI t13 t12)) (must (leI (0 : Int) t13 && ltI t13 (↑(List.length a0) : Int)) (Option.bind (p160 N b1 t13) fun r1 => Option.bind (kSub (List.getD a0 (Int.toNat t13) (0 : UInt64)) (Prod.fst r1) borrow6) fun r2 => must (leI (0 : Int) t13 && ltI t13 (↑(List.length out5o) : Int)) (A_4 a0 b1 (Prod.snd r2) t12 (hide (wr (t13 + (1 : Int)))) (setL out5o (Int.toNat t13) (Prod.fst r2))))) (Option.bind (p158 N out5o) fun r0 => some ((Prod.fst r0, ())))

def l166_4 (N : Nat) (n : Nat) (a0 : List UInt64) (b1 : List UInt64) (borrow6 : UInt64) (t12 : Int) (t13 : Int) (out5o : List UInt64) : Option (List UInt64 × Unit) :=
  loopN (fun A x => b166_4 N (fun a0 b1 borrow6 t12 t13 out5o => A ((a0, (b1, ((), (borrow6, (t12, (t13, ())))))), (out5o, ()))) x.1.1 x.1.2.1 x.1.2.2.2.1 x.1.2.2.2.2.1 x.1.2.2.2.2.2.1 x.2.1) n ((a0, (b1, ((), (borrow6, (t12, (t13, ())))))), (out5o, ()))

theorem l166_4_zero (N : Nat) (a0 : List UInt64) (b1 : List UInt64) (borrow6 : UInt64) (t12 : Int) (t13 : Int) (out5o : List UInt64) : l166_4 N 0 a0 b1 borrow6 t12 t13 out5o = none := rfl

theorem l166_4_succ (N : Nat) (n : Nat) (a0 : List UInt64) (b1 : List UInt64) (borrow6 : UInt64) (t12 : Int) (t13 : Int) (out5o : List UInt64) : l166_4 N (n + 1) a0 b1 borrow6 t12 t13 out5o = b166_4 N (l166_4 N n) a0 b1 borrow6 t12 t13 out5o := rfl

def p166 (N : Nat) (a0 : List UInt64) (b1 : List UInt64) : Option (List UInt64 × Unit) :=
  must (eqI (↑(List.length a0) : Int) (↑(List.length a0) : Int) && leN (Int.toNat (↑(List.length a0) : Int) * (8 : Nat)) (140737488355328 : Nat)) (l166_4 N N a0 b1 ((0 : UInt64)) ((↑(List.length a0) : Int)) ((0 : Int)) (List.replicate (Int.toNat (↑(List.length a0) : Int)) (0 : UInt64)))

def g166 (N : Nat) : Sg := sgK [(K.ro .u64), (K.ro .u64)] [(K.ro .u64)] fun x => p166 N x.1 x.2.1

def tab166 : List (Nat × Head) := [
    (4, ⟨⟨34, [(0, .u (.c (.ro .u64))), (1, .u (.c (.ro .u64))), (5, .u (.c (.row 5000000))), (6, .u (.c (.u64))), (12, .u (.c (.int))), (13, .u (.c (.int)))], [(5000000, ⟨true, 0, 42, .vec .u64⟩)]⟩, .exit 0⟩)]

def env166 (N : Nat) : List (Nat × Sg) := [(160, g160 N), (159, sg3 kSub), (158, g158 N)]

theorem env166_ok (N : Nat) : EnvOK Try.prog pd.els (env166 N) := ⟨g160_ok N, ⟨e159_ok, ⟨g158_ok N, trivial⟩⟩⟩

theorem g166_ok (N : Nat) : SgOK Try.prog pd.els 166 (g166 N) :=
  sgK_ok pd_ok (env_look (env166_ok N)) Try.func166 (name_ne (by kernel_rfl)) [(K.ro .u64), (K.ro .u64)] [(K.ro .u64)] _ N tab166 4 fun x => by kernel_rfl

/-! #### 63 -/

def p63 (N : Nat) (a0 : List UInt64) (b1 : List UInt64) : Option (List UInt64 × Int × Unit) :=
  Option.bind (p61 N a0 b1) fun r0 => cond (hide (ltI (Prod.fst r0) (0 : Int))) (some (([], (1 : Int), ()))) (Option.bind (p166 N a0 b1) fun r1 => some ((Prod.fst r1, (0 : Int), ())))

def g63 (N : Nat) : Sg := sgK [(K.ro .u64), (K.ro .u64)] [(K.ro .u64), K.int] fun x => p63 N x.1 x.2.1

def tab63 : List (Nat × Head) := [
    ]

def env63 (N : Nat) : List (Nat × Sg) := [(61, g61 N), (166, g166 N)]

theorem env63_ok (N : Nat) : EnvOK Try.prog pd.els (env63 N) := ⟨g61_ok N, ⟨g166_ok N, trivial⟩⟩

theorem g63_ok (N : Nat) : SgOK Try.prog pd.els 63 (g63 N) :=
  sgK_ok pd_ok (env_look (env63_ok N)) Try.func63 (name_ne (by kernel_rfl)) [(K.ro .u64), (K.ro .u64)] [(K.ro .u64), K.int] _ N tab63 4 fun x => by kernel_rfl

/-! #### 163 -/

def p163 (N : Nat) (x0 : UInt64) (y1 : UInt64) : Option (UInt64 × UInt64 × Unit) :=
  some ((hide (hide (hide (hide (shr64 x0 (UInt64.toNat (32 : UInt64))) * hide (shr64 y1 (UInt64.toNat (32 : UInt64)))) + hide (shr64 (hide (hide (hide (shr64 x0 (UInt64.toNat (32 : UInt64))) * hide (y1 &&& (4294967295 : UInt64))) + hide (shr64 (hide (hide (x0 &&& (4294967295 : UInt64)) * hide (y1 &&& (4294967295 : UInt64)))) (UInt64.toNat (32 : UInt64))))) (UInt64.toNat (32 : UInt64)))) + hide (shr64 (hide (hide (hide (hide (hide (shr64 x0 (UInt64.toNat (32 : UInt64))) * hide (y1 &&& (4294967295 : UInt64))) + hide (shr64 (hide (hide (x0 &&& (4294967295 : UInt64)) * hide (y1 &&& (4294967295 : UInt64)))) (UInt64.toNat (32 : UInt64)))) &&& (4294967295 : UInt64)) + hide (hide (x0 &&& (4294967295 : UInt64)) * hide (shr64 y1 (UInt64.toNat (32 : UInt64)))))) (UInt64.toNat (32 : UInt64)))), hide (x0 * y1), ()))

def g163 (N : Nat) : Sg := sgK [K.u64, K.u64] [K.u64, K.u64] fun x => p163 N x.1 x.2.1

def tab163 : List (Nat × Head) := [
    ]

def env163 (N : Nat) : List (Nat × Sg) := []

theorem env163_ok (N : Nat) : EnvOK Try.prog pd.els (env163 N) := trivial

theorem g163_ok (N : Nat) : SgOK Try.prog pd.els 163 (g163 N) :=
  sgK_ok pd_ok (env_look (env163_ok N)) Try.func163 (name_ne (by kernel_rfl)) [K.u64, K.u64] [K.u64, K.u64] _ N tab163 4 fun x => by kernel_rfl

/-! #### 55 -/

def b55_7 (N : Nat) (A_3 : (List UInt64) → (List UInt64) → Int → Int → (List UInt64) → Option (List UInt64 × Unit)) (A_7 : (List UInt64) → Int → UInt64 → UInt64 → (List UInt64) → Int → Int → (List UInt64) → Int → Int → (List UInt64) → Option (List UInt64 × Unit)) (b1 : List UInt64) (i6 : Int) (x7 : UInt64) (over8 : UInt64) (t21 : List UInt64) (t22 : Int) (t23 : Int) (t28 : List UInt64) (t29 : Int) (t30 : Int) (out5o : List UInt64) : Option (List UInt64 × Unit) :=
  cond (hide (ltI t30 t29)) (must (leI (0 : Int) t30 && ltI t30 (↑(List.length t28) : Int)) (Option.bind (p163 N x7 (List.getD t28 (Int.toNat t30) (0 : UInt64))) fun r0 => must (leI (0 : Int) (hide (wr (i6 + t30))) && ltI (hide (wr (i6 + t30))) (↑(List.length out5o) : Int)) (Option.bind (kAdd (Prod.fst (Prod.snd r0)) (List.getD out5o (Int.toNat (hide (wr (i6 + t30)))) (0 : UInt64)) ((0 : UInt64))) fun r1 => Option.bind (kAdd (Prod.fst r1) over8 ((0 : UInt64))) fun r2 => must (leI (0 : Int) (hide (wr (i6 + t30))) && ltI (hide (wr (i6 + t30))) (↑(List.length out5o) : Int)) (A_7 b1 i6 x7 (hide (hide (Prod.fst r0 + Prod.snd r1) + Prod.snd r2)) t21 t22 t23 t28 t29 (hide (wr (t30 + (1 : Int)))) (setL out5o (Int.toNat (hide (wr (i6 + t30)))) (Prod.fst r2)))))) (must (leI (0 : Int) (hide (wr (i6 + (↑(List.length b1) : Int)))) && ltI (hide (wr (i6 + (↑(List.length b1) : Int)))) (↑(List.length out5o) : Int)) (A_3 b1 t21 t22 (hide (wr (t23 + (1 : Int)))) (setL out5o (Int.toNat (hide (wr (i6 + (↑(List.length b1) : Int))))) over8)))

def l55_7 (N : Nat) (A_3 : (List UInt64) → (List UInt64) → Int → Int → (List UInt64) → Option (List UInt64 × Unit)) (n : Nat) (b1 : List UInt64) (i6 : Int) (x7 : UInt64) (over8 : UInt64) (t21 : List UInt64) (t22 : Int) (t23 : Int) (t28 : List UInt64) (t29 : Int) (t30 : Int) (out5o : List UInt64) : Option (List UInt64 × Unit) :=
  loopN (fun A x => b55_7 N A_3 (fun b1 i6 x7 over8 t21 t22 t23 t28 t29 t30 out5o => A ((b1, ((), (i6, (x7, (over8, (t21, (t22, (t23, (t28, (t29, (t30, ()))))))))))), (out5o, ()))) x.1.1 x.1.2.2.1 x.1.2.2.2.1 x.1.2.2.2.2.1 x.1.2.2.2.2.2.1 x.1.2.2.2.2.2.2.1 x.1.2.2.2.2.2.2.2.1 x.1.2.2.2.2.2.2.2.2.1 x.1.2.2.2.2.2.2.2.2.2.1 x.1.2.2.2.2.2.2.2.2.2.2.1 x.2.1) n ((b1, ((), (i6, (x7, (over8, (t21, (t22, (t23, (t28, (t29, (t30, ()))))))))))), (out5o, ()))

theorem l55_7_zero (N : Nat) (A_3 : (List UInt64) → (List UInt64) → Int → Int → (List UInt64) → Option (List UInt64 × Unit)) (b1 : List UInt64) (i6 : Int) (x7 : UInt64) (over8 : UInt64) (t21 : List UInt64) (t22 : Int) (t23 : Int) (t28 : List UInt64) (t29 : Int) (t30 : Int) (out5o : List UInt64) : l55_7 N A_3 0 b1 i6 x7 over8 t21 t22 t23 t28 t29 t30 out5o = none := rfl

theorem l55_7_succ (N : Nat) (A_3 : (List UInt64) → (List UInt64) → Int → Int → (List UInt64) → Option (List UInt64 × Unit)) (n : Nat) (b1 : List UInt64) (i6 : Int) (x7 : UInt64) (over8 : UInt64) (t21 : List UInt64) (t22 : Int) (t23 : Int) (t28 : List UInt64) (t29 : Int) (t30 : Int) (out5o : List UInt64) : l55_7 N A_3 (n + 1) b1 i6 x7 over8 t21 t22 t23 t28 t29 t30 out5o = b55_7 N A_3 (l55_7 N A_3 n) b1 i6 x7 over8 t21 t22 t23 t28 t29 t30 out5o := rfl

def b55_3 (N : Nat) (A_3 : (List UInt64) → (List UInt64) → Int → Int → (List UInt64) → Option (List UInt64 × Unit)) (b1 : List UInt64) (t21 : List UInt64) (t22 : Int) (t23 : Int) (out5o : List UInt64) : Option (List UInt64 × Unit) :=
  cond (hide (ltI t23 t22)) (must (leI (0 : Int) t23 && ltI t23 (↑(List.length t21) : Int)) (l55_7 N A_3 N b1 t23 (List.getD t21 (Int.toNat t23) (0 : UInt64)) ((0 : UInt64)) t21 t22 t23 b1 ((↑(List.length b1) : Int)) ((0 : Int)) out5o)) (Option.bind (p158 N out5o) fun r0 => some ((Prod.fst r0, ())))

def l55_3 (N : Nat) (n : Nat) (b1 : List UInt64) (t21 : List UInt64) (t22 : Int) (t23 : Int) (out5o : List UInt64) : Option (List UInt64 × Unit) :=
  loopN (fun A x => b55_3 N (fun b1 t21 t22 t23 out5o => A ((b1, ((), (t21, (t22, (t23, ()))))), (out5o, ()))) x.1.1 x.1.2.2.1 x.1.2.2.2.1 x.1.2.2.2.2.1 x.2.1) n ((b1, ((), (t21, (t22, (t23, ()))))), (out5o, ()))

theorem l55_3_zero (N : Nat) (b1 : List UInt64) (t21 : List UInt64) (t22 : Int) (t23 : Int) (out5o : List UInt64) : l55_3 N 0 b1 t21 t22 t23 out5o = none := rfl

theorem l55_3_succ (N : Nat) (n : Nat) (b1 : List UInt64) (t21 : List UInt64) (t22 : Int) (t23 : Int) (out5o : List UInt64) : l55_3 N (n + 1) b1 t21 t22 t23 out5o = b55_3 N (l55_3 N n) b1 t21 t22 t23 out5o := rfl

def p55 (N : Nat) (a0 : List UInt64) (b1 : List UInt64) : Option (List UInt64 × Unit) :=
  must (leI (0 : Int) (hide (wr ((↑(List.length a0) : Int) + (↑(List.length b1) : Int)))) && (eqI (hide (wr ((↑(List.length a0) : Int) + (↑(List.length b1) : Int)))) (hide (wr ((↑(List.length a0) : Int) + (↑(List.length b1) : Int)))) && leN (Int.toNat (hide (wr ((↑(List.length a0) : Int) + (↑(List.length b1) : Int)))) * (8 : Nat)) (140737488355328 : Nat))) (l55_3 N N b1 a0 ((↑(List.length a0) : Int)) ((0 : Int)) (List.replicate (Int.toNat (hide (wr ((↑(List.length a0) : Int) + (↑(List.length b1) : Int))))) (0 : UInt64)))

def g55 (N : Nat) : Sg := sgK [(K.ro .u64), (K.ro .u64)] [(K.ro .u64)] fun x => p55 N x.1 x.2.1

def tab55 : List (Nat × Head) := [
    (3, ⟨⟨80, [(1, .u (.c (.ro .u64))), (5, .u (.c (.row 4000000))), (21, .u (.c (.ro .u64))), (22, .u (.c (.int))), (23, .u (.c (.int)))], [(4000000, ⟨true, 0, 42, .vec .u64⟩)]⟩, .exit 0⟩),
    (7, ⟨⟨80, [(1, .u (.c (.ro .u64))), (5, .u (.c (.row 8000000))), (6, .u (.c (.int))), (7, .u (.c (.u64))), (8, .u (.c (.u64))), (21, .u (.c (.ro .u64))), (22, .u (.c (.int))), (23, .u (.c (.int))), (28, .u (.c (.ro .u64))), (29, .u (.c (.int))), (30, .u (.c (.int)))], [(8000000, ⟨true, 0, 42, .vec .u64⟩)]⟩, .exit 2⟩)]

def env55 (N : Nat) : List (Nat × Sg) := [(163, g163 N), (164, sg3 kAdd), (158, g158 N)]

theorem env55_ok (N : Nat) : EnvOK Try.prog pd.els (env55 N) := ⟨g163_ok N, ⟨e164_ok, ⟨g158_ok N, trivial⟩⟩⟩

theorem g55_ok (N : Nat) : SgOK Try.prog pd.els 55 (g55 N) :=
  sgK_ok pd_ok (env_look (env55_ok N)) Try.func55 (name_ne (by kernel_rfl)) [(K.ro .u64), (K.ro .u64)] [(K.ro .u64)] _ N tab55 4 fun x => by kernel_rfl

/-! #### 52 -/

def b52_18 (N : Nat) (A_1000 : (List UInt64) → Int → (List UInt64) → (List UInt64) → Option (List UInt64 × Int × Unit)) (A_18 : (List UInt64) → Int → UInt64 → Int → Int → (List UInt64) → (List UInt64) → Option (List UInt64 × Int × Unit)) (a0 : List UInt64) (i7 : Int) (borrow10 : UInt64) (t66 : Int) (t67 : Int) (m1o : List UInt64) (r6o : List UInt64) : Option (List UInt64 × Int × Unit) :=
  cond (hide (ltI t67 t66)) (must (leI (0 : Int) t67 && ltI t67 (↑(List.length r6o) : Int)) (Option.bind (p160 N m1o t67) fun r0 => Option.bind (kSub (List.getD r6o (Int.toNat t67) (0 : UInt64)) (Prod.fst r0) borrow10) fun r1 => must (leI (0 : Int) t67 && ltI t67 (↑(List.length r6o) : Int)) (A_18 a0 i7 (Prod.snd r1) t66 (hide (wr (t67 + (1 : Int)))) m1o (setL r6o (Int.toNat t67) (Prod.fst r1))))) (A_1000 a0 i7 m1o r6o)

def l52_18 (N : Nat) (A_1000 : (List UInt64) → Int → (List UInt64) → (List UInt64) → Option (List UInt64 × Int × Unit)) (n : Nat) (a0 : List UInt64) (i7 : Int) (borrow10 : UInt64) (t66 : Int) (t67 : Int) (m1o : List UInt64) (r6o : List UInt64) : Option (List UInt64 × Int × Unit) :=
  loopN (fun A x => b52_18 N A_1000 (fun a0 i7 borrow10 t66 t67 m1o r6o => A ((a0, ((), ((), (i7, (borrow10, (t66, (t67, ()))))))), (m1o, (r6o, ())))) x.1.1 x.1.2.2.2.1 x.1.2.2.2.2.1 x.1.2.2.2.2.2.1 x.1.2.2.2.2.2.2.1 x.2.1 x.2.2.1) n ((a0, ((), ((), (i7, (borrow10, (t66, (t67, ()))))))), (m1o, (r6o, ())))

theorem l52_18_zero (N : Nat) (A_1000 : (List UInt64) → Int → (List UInt64) → (List UInt64) → Option (List UInt64 × Int × Unit)) (a0 : List UInt64) (i7 : Int) (borrow10 : UInt64) (t66 : Int) (t67 : Int) (m1o : List UInt64) (r6o : List UInt64) : l52_18 N A_1000 0 a0 i7 borrow10 t66 t67 m1o r6o = none := rfl

theorem l52_18_succ (N : Nat) (A_1000 : (List UInt64) → Int → (List UInt64) → (List UInt64) → Option (List UInt64 × Int × Unit)) (n : Nat) (a0 : List UInt64) (i7 : Int) (borrow10 : UInt64) (t66 : Int) (t67 : Int) (m1o : List UInt64) (r6o : List UInt64) : l52_18 N A_1000 (n + 1) a0 i7 borrow10 t66 t67 m1o r6o = b52_18 N A_1000 (l52_18 N A_1000 n) a0 i7 borrow10 t66 t67 m1o r6o := rfl

def b52_11 (N : Nat) (A_1000 : (List UInt64) → Int → (List UInt64) → (List UInt64) → Option (List UInt64 × Int × Unit)) (A_11 : (List UInt64) → Int → UInt64 → Int → Int → (List UInt64) → (List UInt64) → Option (List UInt64 × Int × Unit)) (a0 : List UInt64) (i7 : Int) (carry8 : UInt64) (t41 : Int) (t42 : Int) (m1o : List UInt64) (r6o : List UInt64) : Option (List UInt64 × Int × Unit) :=
  cond (hide (ltI t42 t41)) (must (leI (0 : Int) t42 && ltI t42 (↑(List.length r6o) : Int)) (must (leI (0 : Int) t42 && ltI t42 (↑(List.length r6o) : Int)) (must (leI (0 : Int) t42 && ltI t42 (↑(List.length r6o) : Int)) (A_11 a0 i7 (hide (shr64 (List.getD r6o (Int.toNat t42) (0 : UInt64)) (UInt64.toNat (63 : UInt64)))) t41 (hide (wr (t42 + (1 : Int)))) m1o (setL r6o (Int.toNat t42) (hide (hide (shl64 (List.getD r6o (Int.toNat t42) (0 : UInt64)) (UInt64.toNat (1 : UInt64))) ||| carry8))))))) (Option.bind (p61 N r6o m1o) fun r0 => cond (hide (leI (0 : Int) (Prod.fst r0))) (l52_18 N A_1000 N a0 i7 ((0 : UInt64)) ((↑(List.length r6o) : Int)) ((0 : Int)) m1o r6o) (A_1000 a0 i7 m1o r6o))

def l52_11 (N : Nat) (A_1000 : (List UInt64) → Int → (List UInt64) → (List UInt64) → Option (List UInt64 × Int × Unit)) (n : Nat) (a0 : List UInt64) (i7 : Int) (carry8 : UInt64) (t41 : Int) (t42 : Int) (m1o : List UInt64) (r6o : List UInt64) : Option (List UInt64 × Int × Unit) :=
  loopN (fun A x => b52_11 N A_1000 (fun a0 i7 carry8 t41 t42 m1o r6o => A ((a0, ((), ((), (i7, (carry8, (t41, (t42, ()))))))), (m1o, (r6o, ())))) x.1.1 x.1.2.2.2.1 x.1.2.2.2.2.1 x.1.2.2.2.2.2.1 x.1.2.2.2.2.2.2.1 x.2.1 x.2.2.1) n ((a0, ((), ((), (i7, (carry8, (t41, (t42, ()))))))), (m1o, (r6o, ())))

theorem l52_11_zero (N : Nat) (A_1000 : (List UInt64) → Int → (List UInt64) → (List UInt64) → Option (List UInt64 × Int × Unit)) (a0 : List UInt64) (i7 : Int) (carry8 : UInt64) (t41 : Int) (t42 : Int) (m1o : List UInt64) (r6o : List UInt64) : l52_11 N A_1000 0 a0 i7 carry8 t41 t42 m1o r6o = none := rfl

theorem l52_11_succ (N : Nat) (A_1000 : (List UInt64) → Int → (List UInt64) → (List UInt64) → Option (List UInt64 × Int × Unit)) (n : Nat) (a0 : List UInt64) (i7 : Int) (carry8 : UInt64) (t41 : Int) (t42 : Int) (m1o : List UInt64) (r6o : List UInt64) : l52_11 N A_1000 (n + 1) a0 i7 carry8 t41 t42 m1o r6o = b52_11 N A_1000 (l52_11 N A_1000 n) a0 i7 carry8 t41 t42 m1o r6o := rfl

def b52_1000 (N : Nat) (A_1000 : (List UInt64) → Int → (List UInt64) → (List UInt64) → Option (List UInt64 × Int × Unit)) (a0 : List UInt64) (i7 : Int) (m1o : List UInt64) (r6o : List UInt64) : Option (List UInt64 × Int × Unit) :=
  cond (hide (ltI (hide (wr (i7 - (1 : Int)))) (0 : Int))) (Option.bind (p158 N r6o) fun r0 => some ((Prod.fst r0, (0 : Int), ()))) (must (leI (0 : Int) (hide (wr (Int.tdiv (hide (wr (i7 - (1 : Int)))) (64 : Int)))) && ltI (hide (wr (Int.tdiv (hide (wr (i7 - (1 : Int)))) (64 : Int)))) (↑(List.length a0) : Int)) (l52_11 N A_1000 N a0 (hide (wr (i7 - (1 : Int)))) (hide (hide (shr64 (List.getD a0 (Int.toNat (hide (wr (Int.tdiv (hide (wr (i7 - (1 : Int)))) (64 : Int))))) (0 : UInt64)) (UInt64.toNat (hide (u64I (hide (Int.tmod (hide (wr (i7 - (1 : Int)))) (64 : Int))))))) &&& (1 : UInt64))) ((↑(List.length r6o) : Int)) ((0 : Int)) m1o r6o))

def l52_1000 (N : Nat) (n : Nat) (a0 : List UInt64) (i7 : Int) (m1o : List UInt64) (r6o : List UInt64) : Option (List UInt64 × Int × Unit) :=
  loopN (fun A x => b52_1000 N (fun a0 i7 m1o r6o => A ((a0, ((), ((), (i7, ())))), (m1o, (r6o, ())))) x.1.1 x.1.2.2.2.1 x.2.1 x.2.2.1) n ((a0, ((), ((), (i7, ())))), (m1o, (r6o, ())))

theorem l52_1000_zero (N : Nat) (a0 : List UInt64) (i7 : Int) (m1o : List UInt64) (r6o : List UInt64) : l52_1000 N 0 a0 i7 m1o r6o = none := rfl

theorem l52_1000_succ (N : Nat) (n : Nat) (a0 : List UInt64) (i7 : Int) (m1o : List UInt64) (r6o : List UInt64) : l52_1000 N (n + 1) a0 i7 m1o r6o = b52_1000 N (l52_1000 N n) a0 i7 m1o r6o := rfl

def p52 (N : Nat) (a0 : List UInt64) (m1 : List UInt64) : Option (List UInt64 × Int × Unit) :=
  Option.bind (p158 N m1) fun r0 => cond (hide (eqI (↑(List.length (Prod.fst r0)) : Int) (0 : Int))) (some (([], (7 : Int), ()))) (must (leI (0 : Int) (hide (wr ((↑(List.length (Prod.fst r0)) : Int) + (1 : Int)))) && (eqI (hide (wr ((↑(List.length (Prod.fst r0)) : Int) + (1 : Int)))) (hide (wr ((↑(List.length (Prod.fst r0)) : Int) + (1 : Int)))) && leN (Int.toNat (hide (wr ((↑(List.length (Prod.fst r0)) : Int) + (1 : Int)))) * (8 : Nat)) (140737488355328 : Nat))) (l52_1000 N N a0 (hide (wr ((64 : Int) * (↑(List.length a0) : Int)))) (Prod.fst r0) (List.replicate (Int.toNat (hide (wr ((↑(List.length (Prod.fst r0)) : Int) + (1 : Int))))) (0 : UInt64))))

def g52 (N : Nat) : Sg := sgK [(K.ro .u64), (K.ro .u64)] [(K.ro .u64), K.int] fun x => p52 N x.1 x.2.1

def tab52 : List (Nat × Head) := [
    (1000, ⟨⟨86, [(0, .u (.c (.ro .u64))), (1, .u (.c (.row 1001000000))), (6, .u (.c (.row 1001000001))), (7, .u (.c (.int)))], [(1001000000, ⟨true, 0, 42, .vec .u64⟩), (1001000001, ⟨true, 0, 42, .vec .u64⟩)]⟩, .fall⟩),
    (11, ⟨⟨86, [(0, .u (.c (.ro .u64))), (1, .u (.c (.row 12000000))), (6, .u (.c (.row 12000001))), (7, .u (.c (.int))), (8, .u (.c (.u64))), (41, .u (.c (.int))), (42, .u (.c (.int)))], [(12000000, ⟨true, 0, 42, .vec .u64⟩), (12000001, ⟨true, 0, 42, .vec .u64⟩)]⟩, .exit 0⟩),
    (18, ⟨⟨86, [(0, .u (.c (.ro .u64))), (1, .u (.c (.row 19000000))), (6, .u (.c (.row 19000001))), (7, .u (.c (.int))), (10, .u (.c (.u64))), (66, .u (.c (.int))), (67, .u (.c (.int)))], [(19000000, ⟨true, 0, 42, .vec .u64⟩), (19000001, ⟨true, 0, 42, .vec .u64⟩)]⟩, .exit 2⟩)]

def env52 (N : Nat) : List (Nat × Sg) := [(158, g158 N), (61, g61 N), (160, g160 N), (159, sg3 kSub)]

theorem env52_ok (N : Nat) : EnvOK Try.prog pd.els (env52 N) := ⟨g158_ok N, ⟨g61_ok N, ⟨g160_ok N, ⟨e159_ok, trivial⟩⟩⟩⟩

theorem g52_ok (N : Nat) : SgOK Try.prog pd.els 52 (g52 N) :=
  sgK_ok pd_ok (env_look (env52_ok N)) Try.func52 (name_ne (by kernel_rfl)) [(K.ro .u64), (K.ro .u64)] [(K.ro .u64), K.int] _ N tab52 4 fun x => by kernel_rfl

/-! #### 57 -/

def b57_9 (N : Nat) (A_6 : Int → Int → Int → (List UInt8) → (List UInt64) → Option (List UInt8 × Int × Unit)) (A_9 : Int → Int → UInt64 → Int → Int → Int → (List UInt8) → (List UInt64) → Option (List UInt8 × Int × Unit)) (n1 : Int) (i7 : Int) (x8 : UInt64) (t23 : Int) (t24 : Int) (t29 : Int) (out6o : List UInt8) (t22o : List UInt64) : Option (List UInt8 × Int × Unit) :=
  cond (hide (ltI t29 (8 : Int))) (cond (hide (ltI (hide (wr (hide (wr (hide (wr (n1 - (1 : Int))) - hide (wr ((8 : Int) * i7)))) - t29))) (0 : Int))) (cond (hide !hide (UInt8.ofNat (UInt64.toNat (hide (shr64 x8 (UInt64.toNat (hide (u64I (hide (wr ((8 : Int) * t29)))))))))) == (0 : UInt8)) (some (([], (8 : Int), ()))) (cond (hide (leI (0 : Int) (hide (wr (hide (wr (hide (wr (n1 - (1 : Int))) - hide (wr ((8 : Int) * i7)))) - t29))))) (must (leI (0 : Int) (hide (wr (hide (wr (hide (wr (n1 - (1 : Int))) - hide (wr ((8 : Int) * i7)))) - t29))) && ltI (hide (wr (hide (wr (hide (wr (n1 - (1 : Int))) - hide (wr ((8 : Int) * i7)))) - t29))) (↑(List.length out6o) : Int)) (A_9 n1 i7 x8 t23 t24 (hide (wr (t29 + (1 : Int)))) (setL out6o (Int.toNat (hide (wr (hide (wr (hide (wr (n1 - (1 : Int))) - hide (wr ((8 : Int) * i7)))) - t29)))) (hide (UInt8.ofNat (UInt64.toNat (hide (shr64 x8 (UInt64.toNat (hide (u64I (hide (wr ((8 : Int) * t29)))))))))))) t22o)) (A_9 n1 i7 x8 t23 t24 (hide (wr (t29 + (1 : Int)))) out6o t22o))) (cond (hide (leI (0 : Int) (hide (wr (hide (wr (hide (wr (n1 - (1 : Int))) - hide (wr ((8 : Int) * i7)))) - t29))))) (must (leI (0 : Int) (hide (wr (hide (wr (hide (wr (n1 - (1 : Int))) - hide (wr ((8 : Int) * i7)))) - t29))) && ltI (hide (wr (hide (wr (hide (wr (n1 - (1 : Int))) - hide (wr ((8 : Int) * i7)))) - t29))) (↑(List.length out6o) : Int)) (A_9 n1 i7 x8 t23 t24 (hide (wr (t29 + (1 : Int)))) (setL out6o (Int.toNat (hide (wr (hide (wr (hide (wr (n1 - (1 : Int))) - hide (wr ((8 : Int) * i7)))) - t29)))) (hide (UInt8.ofNat (UInt64.toNat (hide (shr64 x8 (UInt64.toNat (hide (u64I (hide (wr ((8 : Int) * t29)))))))))))) t22o)) (A_9 n1 i7 x8 t23 t24 (hide (wr (t29 + (1 : Int)))) out6o t22o))) (A_6 n1 t23 (hide (wr (t24 + (1 : Int)))) out6o t22o)

def l57_9 (N : Nat) (A_6 : Int → Int → Int → (List UInt8) → (List UInt64) → Option (List UInt8 × Int × Unit)) (n : Nat) (n1 : Int) (i7 : Int) (x8 : UInt64) (t23 : Int) (t24 : Int) (t29 : Int) (out6o : List UInt8) (t22o : List UInt64) : Option (List UInt8 × Int × Unit) :=
  loopN (fun A x => b57_9 N A_6 (fun n1 i7 x8 t23 t24 t29 out6o t22o => A ((n1, ((), (i7, (x8, ((), (t23, (t24, (t29, ())))))))), (out6o, (t22o, ())))) x.1.1 x.1.2.2.1 x.1.2.2.2.1 x.1.2.2.2.2.2.1 x.1.2.2.2.2.2.2.1 x.1.2.2.2.2.2.2.2.1 x.2.1 x.2.2.1) n ((n1, ((), (i7, (x8, ((), (t23, (t24, (t29, ())))))))), (out6o, (t22o, ())))

theorem l57_9_zero (N : Nat) (A_6 : Int → Int → Int → (List UInt8) → (List UInt64) → Option (List UInt8 × Int × Unit)) (n1 : Int) (i7 : Int) (x8 : UInt64) (t23 : Int) (t24 : Int) (t29 : Int) (out6o : List UInt8) (t22o : List UInt64) : l57_9 N A_6 0 n1 i7 x8 t23 t24 t29 out6o t22o = none := rfl

theorem l57_9_succ (N : Nat) (A_6 : Int → Int → Int → (List UInt8) → (List UInt64) → Option (List UInt8 × Int × Unit)) (n : Nat) (n1 : Int) (i7 : Int) (x8 : UInt64) (t23 : Int) (t24 : Int) (t29 : Int) (out6o : List UInt8) (t22o : List UInt64) : l57_9 N A_6 (n + 1) n1 i7 x8 t23 t24 t29 out6o t22o = b57_9 N A_6 (l57_9 N A_6 n) n1 i7 x8 t23 t24 t29 out6o t22o := rfl

def b57_6 (N : Nat) (A_6 : Int → Int → Int → (List UInt8) → (List UInt64) → Option (List UInt8 × Int × Unit)) (n1 : Int) (t23 : Int) (t24 : Int) (out6o : List UInt8) (t22o : List UInt64) : Option (List UInt8 × Int × Unit) :=
  cond (hide (ltI t24 t23)) (must (leI (0 : Int) t24 && ltI t24 (↑(List.length t22o) : Int)) (l57_9 N A_6 N n1 t24 (List.getD t22o (Int.toNat t24) (0 : UInt64)) t23 t24 ((0 : Int)) out6o t22o)) (some ((out6o, (0 : Int), ())))

def l57_6 (N : Nat) (n : Nat) (n1 : Int) (t23 : Int) (t24 : Int) (out6o : List UInt8) (t22o : List UInt64) : Option (List UInt8 × Int × Unit) :=
  loopN (fun A x => b57_6 N (fun n1 t23 t24 out6o t22o => A ((n1, ((), ((), (t23, (t24, ()))))), (out6o, (t22o, ())))) x.1.1 x.1.2.2.2.1 x.1.2.2.2.2.1 x.2.1 x.2.2.1) n ((n1, ((), ((), (t23, (t24, ()))))), (out6o, (t22o, ())))

theorem l57_6_zero (N : Nat) (n1 : Int) (t23 : Int) (t24 : Int) (out6o : List UInt8) (t22o : List UInt64) : l57_6 N 0 n1 t23 t24 out6o t22o = none := rfl

theorem l57_6_succ (N : Nat) (n : Nat) (n1 : Int) (t23 : Int) (t24 : Int) (out6o : List UInt8) (t22o : List UInt64) : l57_6 N (n + 1) n1 t23 t24 out6o t22o = b57_6 N (l57_6 N n) n1 t23 t24 out6o t22o := rfl

def p57 (N : Nat) (a0 : List UInt64) (n1 : Int) : Option (List UInt8 × Int × Unit) :=
  Option.bind (p158 N a0) fun r0 => cond (hide (ltI n1 (0 : Int))) (some (([], (8 : Int), ()))) (cond (hide (ltI (192 : Int) n1)) (some (([], (8 : Int), ()))) (must (leI (0 : Int) n1 && (eqI n1 n1 && leN (Int.toNat n1 * (1 : Nat)) (140737488355328 : Nat))) (l57_6 N N n1 ((↑(List.length (Prod.fst r0)) : Int)) ((0 : Int)) (List.replicate (Int.toNat n1) (0 : UInt8)) (Prod.fst r0))))

def g57 (N : Nat) : Sg := sgK [(K.ro .u64), K.int] [(K.ro .u8), K.int] fun x => p57 N x.1 x.2.1

def tab57 : List (Nat × Head) := [
    (6, ⟨⟨60, [(1, .u (.c (.int))), (6, .u (.c (.row 7000000))), (22, .u (.c (.row 7000001))), (23, .u (.c (.int))), (24, .u (.c (.int)))], [(7000000, ⟨true, 0, 5, .vec .u8⟩), (7000001, ⟨true, 0, 42, .vec .u64⟩)]⟩, .exit 0⟩),
    (9, ⟨⟨60, [(1, .u (.c (.int))), (6, .u (.c (.row 10000000))), (7, .u (.c (.int))), (8, .u (.c (.u64))), (22, .u (.c (.row 10000001))), (23, .u (.c (.int))), (24, .u (.c (.int))), (29, .u (.c (.int)))], [(10000000, ⟨true, 0, 5, .vec .u8⟩), (10000001, ⟨true, 0, 42, .vec .u64⟩)]⟩, .exit 2⟩)]

def env57 (N : Nat) : List (Nat × Sg) := [(158, g158 N)]

theorem env57_ok (N : Nat) : EnvOK Try.prog pd.els (env57 N) := ⟨g158_ok N, trivial⟩

theorem g57_ok (N : Nat) : SgOK Try.prog pd.els 57 (g57 N) :=
  sgK_ok pd_ok (env_look (env57_ok N)) Try.func57 (name_ne (by kernel_rfl)) [(K.ro .u64), K.int] [(K.ro .u8), K.int] _ N tab57 4 fun x => by kernel_rfl

/-! #### 59 -/

def b59_3 (N : Nat) (A_3 : (List UInt8) → (List UInt8) → Int → Int → (List UInt64) → Option (List UInt64 × Unit)) (b0 : List UInt8) (t12 : List UInt8) (t13 : Int) (t14 : Int) (out3o : List UInt64) : Option (List UInt64 × Unit) :=
  cond (hide (ltI t14 t13)) (must (leI (0 : Int) t14 && ltI t14 (↑(List.length t12) : Int)) (must (leI (0 : Int) (hide (wr (Int.tdiv (hide (wr (hide (wr ((↑(List.length b0) : Int) - (1 : Int))) - t14))) (8 : Int)))) && ltI (hide (wr (Int.tdiv (hide (wr (hide (wr ((↑(List.length b0) : Int) - (1 : Int))) - t14))) (8 : Int)))) (↑(List.length out3o) : Int)) (must (leI (0 : Int) (hide (wr (Int.tdiv (hide (wr (hide (wr ((↑(List.length b0) : Int) - (1 : Int))) - t14))) (8 : Int)))) && ltI (hide (wr (Int.tdiv (hide (wr (hide (wr ((↑(List.length b0) : Int) - (1 : Int))) - t14))) (8 : Int)))) (↑(List.length out3o) : Int)) (A_3 b0 t12 t13 (hide (wr (t14 + (1 : Int)))) (setL out3o (Int.toNat (hide (wr (Int.tdiv (hide (wr (hide (wr ((↑(List.length b0) : Int) - (1 : Int))) - t14))) (8 : Int))))) (hide (List.getD out3o (Int.toNat (hide (wr (Int.tdiv (hide (wr (hide (wr ((↑(List.length b0) : Int) - (1 : Int))) - t14))) (8 : Int))))) (0 : UInt64) ||| hide (shl64 (hide (UInt64.ofNat (UInt8.toNat (List.getD t12 (Int.toNat t14) (0 : UInt8))))) (UInt64.toNat (hide (u64I (hide (wr ((8 : Int) * hide (Int.tmod (hide (wr (hide (wr ((↑(List.length b0) : Int) - (1 : Int))) - t14))) (8 : Int)))))))))))))))) (Option.bind (p158 N out3o) fun r0 => some ((Prod.fst r0, ())))

def l59_3 (N : Nat) (n : Nat) (b0 : List UInt8) (t12 : List UInt8) (t13 : Int) (t14 : Int) (out3o : List UInt64) : Option (List UInt64 × Unit) :=
  loopN (fun A x => b59_3 N (fun b0 t12 t13 t14 out3o => A ((b0, ((), (t12, (t13, (t14, ()))))), (out3o, ()))) x.1.1 x.1.2.2.1 x.1.2.2.2.1 x.1.2.2.2.2.1 x.2.1) n ((b0, ((), (t12, (t13, (t14, ()))))), (out3o, ()))

theorem l59_3_zero (N : Nat) (b0 : List UInt8) (t12 : List UInt8) (t13 : Int) (t14 : Int) (out3o : List UInt64) : l59_3 N 0 b0 t12 t13 t14 out3o = none := rfl

theorem l59_3_succ (N : Nat) (n : Nat) (b0 : List UInt8) (t12 : List UInt8) (t13 : Int) (t14 : Int) (out3o : List UInt64) : l59_3 N (n + 1) b0 t12 t13 t14 out3o = b59_3 N (l59_3 N n) b0 t12 t13 t14 out3o := rfl

def p59 (N : Nat) (b0 : List UInt8) : Option (List UInt64 × Unit) :=
  must (leI (0 : Int) (hide (wr (hide (wr (Int.tdiv (↑(List.length b0) : Int) (8 : Int))) + (1 : Int)))) && (eqI (hide (wr (hide (wr (Int.tdiv (↑(List.length b0) : Int) (8 : Int))) + (1 : Int)))) (hide (wr (hide (wr (Int.tdiv (↑(List.length b0) : Int) (8 : Int))) + (1 : Int)))) && leN (Int.toNat (hide (wr (hide (wr (Int.tdiv (↑(List.length b0) : Int) (8 : Int))) + (1 : Int)))) * (8 : Nat)) (140737488355328 : Nat))) (l59_3 N N b0 b0 ((↑(List.length b0) : Int)) ((0 : Int)) (List.replicate (Int.toNat (hide (wr (hide (wr (Int.tdiv (↑(List.length b0) : Int) (8 : Int))) + (1 : Int))))) (0 : UInt64)))

def g59 (N : Nat) : Sg := sgK [(K.ro .u8)] [(K.ro .u64)] fun x => p59 N x.1

def tab59 : List (Nat × Head) := [
    (3, ⟨⟨41, [(0, .u (.c (.ro .u8))), (3, .u (.c (.row 4000000))), (12, .u (.c (.ro .u8))), (13, .u (.c (.int))), (14, .u (.c (.int)))], [(4000000, ⟨true, 0, 42, .vec .u64⟩)]⟩, .exit 0⟩)]

def env59 (N : Nat) : List (Nat × Sg) := [(158, g158 N)]

theorem env59_ok (N : Nat) : EnvOK Try.prog pd.els (env59 N) := ⟨g158_ok N, trivial⟩

theorem g59_ok (N : Nat) : SgOK Try.prog pd.els 59 (g59 N) :=
  sgK_ok pd_ok (env_look (env59_ok N)) Try.func59 (name_ne (by kernel_rfl)) [(K.ro .u8)] [(K.ro .u64)] _ N tab59 4 fun x => by kernel_rfl

/-! #### 161 -/

def b161_2 (N : Nat) (A_2 : (List UInt64) → Int → Option (List UInt64 × Unit)) (a0 : List UInt64) (n3 : Int) : Option (List UInt64 × Unit) :=
  cond (hide (ltI (0 : Int) n3)) (must (leI (0 : Int) (hide (wr (n3 - (1 : Int)))) && ltI (hide (wr (n3 - (1 : Int)))) (↑(List.length a0) : Int)) (cond (hide (List.getD a0 (Int.toNat (hide (wr (n3 - (1 : Int))))) (0 : UInt64) == (0 : UInt64))) (A_2 a0 (hide (wr (n3 - (1 : Int))))) (must (leI (0 : Int) n3 && leI n3 (↑(List.length a0) : Int)) (must (leN (((0 : Nat) + List.length (List.take (Int.toNat (n3 - (0 : Int))) a0)) * (8 : Nat)) (140737488355328 : Nat)) (some ((List.take (Int.toNat (n3 - (0 : Int))) a0, ()))))))) (must (leI (0 : Int) n3 && leI n3 (↑(List.length a0) : Int)) (must (leN (((0 : Nat) + List.length (List.take (Int.toNat (n3 - (0 : Int))) a0)) * (8 : Nat)) (140737488355328 : Nat)) (some ((List.take (Int.toNat (n3 - (0 : Int))) a0, ())))))

def l161_2 (N : Nat) (n : Nat) (a0 : List UInt64) (n3 : Int) : Option (List UInt64 × Unit) :=
  loopN (fun A x => b161_2 N (fun a0 n3 => A ((a0, (n3, ())), ())) x.1.1 x.1.2.1) n ((a0, (n3, ())), ())

theorem l161_2_zero (N : Nat) (a0 : List UInt64) (n3 : Int) : l161_2 N 0 a0 n3 = none := rfl

theorem l161_2_succ (N : Nat) (n : Nat) (a0 : List UInt64) (n3 : Int) : l161_2 N (n + 1) a0 n3 = b161_2 N (l161_2 N n) a0 n3 := rfl

def p161 (N : Nat) (a0 : List UInt64) : Option (List UInt64 × Unit) :=
  l161_2 N N a0 ((↑(List.length a0) : Int))

def g161 (N : Nat) : Sg := sgK [(K.ro .u64)] [(K.ro .u64)] fun x => p161 N x.1

def tab161 : List (Nat × Head) := [
    (2, ⟨⟨23, [(0, .u (.c (.ro .u64))), (3, .u (.c (.int)))], []⟩, .exit 0⟩)]

def env161 (N : Nat) : List (Nat × Sg) := []

theorem env161_ok (N : Nat) : EnvOK Try.prog pd.els (env161 N) := trivial

theorem g161_ok (N : Nat) : SgOK Try.prog pd.els 161 (g161 N) :=
  sgK_ok pd_ok (env_look (env161_ok N)) Try.func161 (name_ne (by kernel_rfl)) [(K.ro .u64)] [(K.ro .u64)] _ N tab161 4 fun x => by kernel_rfl

/-! #### 162 -/

def p162 (N : Nat) (a0 : List UInt64) (i1 : Int) : Option (UInt64 × Unit) :=
  cond (hide (leI (↑(List.length a0) : Int) (hide (wr (Int.tdiv i1 (64 : Int)))))) (some (((0 : UInt64), ()))) (must (leI (0 : Int) (hide (wr (Int.tdiv i1 (64 : Int)))) && ltI (hide (wr (Int.tdiv i1 (64 : Int)))) (↑(List.length a0) : Int)) (must (leI (0 : Int) (hide (Int.tmod i1 (64 : Int)))) (must (ltI (hide (Int.tmod i1 (64 : Int))) (18446744073709551616 : Int)) (some ((hide (hide (shr64 (List.getD a0 (Int.toNat (hide (wr (Int.tdiv i1 (64 : Int))))) (0 : UInt64)) (UInt64.toNat (UInt64.ofNat (Int.toNat (hide (Int.tmod i1 (64 : Int))))))) &&& (1 : UInt64)), ()))))))

def g162 (N : Nat) : Sg := sgK [(K.ro .u64), K.int] [K.u64] fun x => p162 N x.1 x.2.1

def tab162 : List (Nat × Head) := [
    ]

def env162 (N : Nat) : List (Nat × Sg) := []

theorem env162_ok (N : Nat) : EnvOK Try.prog pd.els (env162 N) := trivial

theorem g162_ok (N : Nat) : SgOK Try.prog pd.els 162 (g162 N) :=
  sgK_ok pd_ok (env_look (env162_ok N)) Try.func162 (name_ne (by kernel_rfl)) [(K.ro .u64), K.int] [K.u64] _ N tab162 4 fun x => by kernel_rfl

/-! #### 165 -/

def p165 (N : Nat) (a0 : List UInt64) (i1 : Int) : Option (UInt64 × Unit) :=
  cond (hide (ltI i1 (↑(List.length a0) : Int))) (must (leI (0 : Int) i1 && ltI i1 (↑(List.length a0) : Int)) (some ((List.getD a0 (Int.toNat i1) (0 : UInt64), ())))) (some (((0 : UInt64), ())))

def g165 (N : Nat) : Sg := sgK [(K.ro .u64), K.int] [K.u64] fun x => p165 N x.1 x.2.1

def tab165 : List (Nat × Head) := [
    ]

def env165 (N : Nat) : List (Nat × Sg) := []

theorem env165_ok (N : Nat) : EnvOK Try.prog pd.els (env165 N) := trivial

theorem g165_ok (N : Nat) : SgOK Try.prog pd.els 165 (g165 N) :=
  sgK_ok pd_ok (env_look (env165_ok N)) Try.func165 (name_ne (by kernel_rfl)) [(K.ro .u64), K.int] [K.u64] _ N tab165 4 fun x => by kernel_rfl

/-! #### 65 -/

def b65_7 (N : Nat) (A_7 : Int → (List UInt64) → (List UInt64) → Option (Int × Unit)) (i5 : Int) (a0o : List UInt64) (b1o : List UInt64) : Option (Int × Unit) :=
  cond (hide (leI (0 : Int) i5)) (must (leI (0 : Int) i5 && ltI i5 (↑(List.length a0o) : Int)) (must (leI (0 : Int) i5 && ltI i5 (↑(List.length b1o) : Int)) (cond (hide (ltN (UInt64.toNat (List.getD a0o (Int.toNat i5) (0 : UInt64))) (UInt64.toNat (List.getD b1o (Int.toNat i5) (0 : UInt64))))) (some (((-1 : Int), ()))) (must (leI (0 : Int) i5 && ltI i5 (↑(List.length a0o) : Int)) (must (leI (0 : Int) i5 && ltI i5 (↑(List.length b1o) : Int)) (cond (hide (ltN (UInt64.toNat (List.getD b1o (Int.toNat i5) (0 : UInt64))) (UInt64.toNat (List.getD a0o (Int.toNat i5) (0 : UInt64))))) (some (((1 : Int), ()))) (A_7 (hide (wr (i5 - (1 : Int)))) a0o b1o))))))) (some (((0 : Int), ())))

def l65_7 (N : Nat) (n : Nat) (i5 : Int) (a0o : List UInt64) (b1o : List UInt64) : Option (Int × Unit) :=
  loopN (fun A x => b65_7 N (fun i5 a0o b1o => A (((), ((), (i5, ()))), (a0o, (b1o, ())))) x.1.2.2.1 x.2.1 x.2.2.1) n (((), ((), (i5, ()))), (a0o, (b1o, ())))

theorem l65_7_zero (N : Nat) (i5 : Int) (a0o : List UInt64) (b1o : List UInt64) : l65_7 N 0 i5 a0o b1o = none := rfl

theorem l65_7_succ (N : Nat) (n : Nat) (i5 : Int) (a0o : List UInt64) (b1o : List UInt64) : l65_7 N (n + 1) i5 a0o b1o = b65_7 N (l65_7 N n) i5 a0o b1o := rfl

def p65 (N : Nat) (a0 : List UInt64) (b1 : List UInt64) : Option (Int × Unit) :=
  Option.bind (p161 N a0) fun r0 => Option.bind (p161 N b1) fun r1 => cond (hide !eqI (↑(List.length (Prod.fst r0)) : Int) (↑(List.length (Prod.fst r1)) : Int)) (cond (hide (ltI (↑(List.length (Prod.fst r0)) : Int) (↑(List.length (Prod.fst r1)) : Int))) (some (((-1 : Int), ()))) (some (((1 : Int), ())))) (l65_7 N N (hide (wr ((↑(List.length (Prod.fst r0)) : Int) - (1 : Int)))) (Prod.fst r0) (Prod.fst r1))

def g65 (N : Nat) : Sg := sgK [(K.ro .u64), (K.ro .u64)] [K.int] fun x => p65 N x.1 x.2.1

def tab65 : List (Nat × Head) := [
    (7, ⟨⟨45, [(0, .u (.c (.row 8000000))), (1, .u (.c (.row 8000001))), (5, .u (.c (.int)))], [(8000000, ⟨true, 0, 42, .vec .u64⟩), (8000001, ⟨true, 0, 42, .vec .u64⟩)]⟩, .exit 0⟩)]

def env65 (N : Nat) : List (Nat × Sg) := [(161, g161 N)]

theorem env65_ok (N : Nat) : EnvOK Try.prog pd.els (env65 N) := ⟨g161_ok N, trivial⟩

theorem g65_ok (N : Nat) : SgOK Try.prog pd.els 65 (g65 N) :=
  sgK_ok pd_ok (env_look (env65_ok N)) Try.func65 (name_ne (by kernel_rfl)) [(K.ro .u64), (K.ro .u64)] [K.int] _ N tab65 4 fun x => by kernel_rfl

/-! #### 66 -/

def b66_4 (N : Nat) (A_4 : (List UInt64) → (List UInt64) → UInt64 → Int → (List UInt64) → Option (List UInt64 × Unit)) (a0 : List UInt64) (b1 : List UInt64) (c6 : UInt64) (i7 : Int) (out5o : List UInt64) : Option (List UInt64 × Unit) :=
  cond (hide (ltI i7 (mxI (↑(List.length a0) : Int) (↑(List.length b1) : Int)))) (Option.bind (p165 N a0 i7) fun r1 => Option.bind (p165 N b1 i7) fun r2 => Option.bind (kAdd (Prod.fst r1) (Prod.fst r2) c6) fun r3 => must (leN ((List.length out5o + List.length [Prod.fst r3]) * (8 : Nat)) (140737488355328 : Nat)) (A_4 a0 b1 (Prod.snd r3) (hide (wr (i7 + (1 : Int)))) (out5o ++ [Prod.fst r3]))) (must (leN ((List.length out5o + List.length [c6]) * (8 : Nat)) (140737488355328 : Nat)) (Option.bind (p161 N (out5o ++ [c6])) fun r0 => some ((Prod.fst r0, ()))))

def l66_4 (N : Nat) (n : Nat) (a0 : List UInt64) (b1 : List UInt64) (c6 : UInt64) (i7 : Int) (out5o : List UInt64) : Option (List UInt64 × Unit) :=
  loopN (fun A x => b66_4 N (fun a0 b1 c6 i7 out5o => A ((a0, (b1, ((), (c6, (i7, ()))))), (out5o, ()))) x.1.1 x.1.2.1 x.1.2.2.2.1 x.1.2.2.2.2.1 x.2.1) n ((a0, (b1, ((), (c6, (i7, ()))))), (out5o, ()))

theorem l66_4_zero (N : Nat) (a0 : List UInt64) (b1 : List UInt64) (c6 : UInt64) (i7 : Int) (out5o : List UInt64) : l66_4 N 0 a0 b1 c6 i7 out5o = none := rfl

theorem l66_4_succ (N : Nat) (n : Nat) (a0 : List UInt64) (b1 : List UInt64) (c6 : UInt64) (i7 : Int) (out5o : List UInt64) : l66_4 N (n + 1) a0 b1 c6 i7 out5o = b66_4 N (l66_4 N n) a0 b1 c6 i7 out5o := rfl

def p66 (N : Nat) (a0 : List UInt64) (b1 : List UInt64) : Option (List UInt64 × Unit) :=
  l66_4 N N a0 b1 ((0 : UInt64)) ((0 : Int)) []

def g66 (N : Nat) : Sg := sgK [(K.ro .u64), (K.ro .u64)] [(K.ro .u64)] fun x => p66 N x.1 x.2.1

def tab66 : List (Nat × Head) := [
    (4, ⟨⟨40, [(0, .u (.c (.ro .u64))), (1, .u (.c (.ro .u64))), (5, .u (.c (.row 5000000))), (6, .u (.c (.u64))), (7, .u (.c (.int)))], [(5000000, ⟨true, 0, 42, .vec .u64⟩)]⟩, .exit 0⟩)]

def env66 (N : Nat) : List (Nat × Sg) := [(165, g165 N), (164, sg3 kAdd), (161, g161 N)]

theorem env66_ok (N : Nat) : EnvOK Try.prog pd.els (env66 N) := ⟨g165_ok N, ⟨e164_ok, ⟨g161_ok N, trivial⟩⟩⟩

theorem g66_ok (N : Nat) : SgOK Try.prog pd.els 66 (g66 N) :=
  sgK_ok pd_ok (env_look (env66_ok N)) Try.func66 (name_ne (by kernel_rfl)) [(K.ro .u64), (K.ro .u64)] [(K.ro .u64)] _ N tab66 4 fun x => by kernel_rfl

/-! #### 64 -/

def b64_6 (N : Nat) (A_6 : (List UInt64) → (List UInt64) → UInt64 → Int → (List UInt64) → Option (List UInt64 × Int × Unit)) (a0 : List UInt64) (b1 : List UInt64) (c7 : UInt64) (i8 : Int) (out6o : List UInt64) : Option (List UInt64 × Int × Unit) :=
  cond (hide (ltI i8 (mxI (↑(List.length a0) : Int) (↑(List.length b1) : Int)))) (Option.bind (p165 N a0 i8) fun r1 => Option.bind (p165 N b1 i8) fun r2 => Option.bind (kSub (Prod.fst r1) (Prod.fst r2) c7) fun r3 => must (leN ((List.length out6o + List.length [Prod.fst r3]) * (8 : Nat)) (140737488355328 : Nat)) (A_6 a0 b1 (Prod.snd r3) (hide (wr (i8 + (1 : Int)))) (out6o ++ [Prod.fst r3]))) (Option.bind (p161 N out6o) fun r0 => some ((Prod.fst r0, (0 : Int), ())))

def l64_6 (N : Nat) (n : Nat) (a0 : List UInt64) (b1 : List UInt64) (c7 : UInt64) (i8 : Int) (out6o : List UInt64) : Option (List UInt64 × Int × Unit) :=
  loopN (fun A x => b64_6 N (fun a0 b1 c7 i8 out6o => A ((a0, (b1, ((), (c7, (i8, ()))))), (out6o, ()))) x.1.1 x.1.2.1 x.1.2.2.2.1 x.1.2.2.2.2.1 x.2.1) n ((a0, (b1, ((), (c7, (i8, ()))))), (out6o, ()))

theorem l64_6_zero (N : Nat) (a0 : List UInt64) (b1 : List UInt64) (c7 : UInt64) (i8 : Int) (out6o : List UInt64) : l64_6 N 0 a0 b1 c7 i8 out6o = none := rfl

theorem l64_6_succ (N : Nat) (n : Nat) (a0 : List UInt64) (b1 : List UInt64) (c7 : UInt64) (i8 : Int) (out6o : List UInt64) : l64_6 N (n + 1) a0 b1 c7 i8 out6o = b64_6 N (l64_6 N n) a0 b1 c7 i8 out6o := rfl

def p64 (N : Nat) (a0 : List UInt64) (b1 : List UInt64) : Option (List UInt64 × Int × Unit) :=
  Option.bind (p65 N a0 b1) fun r0 => cond (hide (ltI (Prod.fst r0) (0 : Int))) (some (([], (1 : Int), ()))) (l64_6 N N a0 b1 ((0 : UInt64)) ((0 : Int)) [])

def g64 (N : Nat) : Sg := sgK [(K.ro .u64), (K.ro .u64)] [(K.ro .u64), K.int] fun x => p64 N x.1 x.2.1

def tab64 : List (Nat × Head) := [
    (6, ⟨⟨42, [(0, .u (.c (.ro .u64))), (1, .u (.c (.ro .u64))), (6, .u (.c (.row 7000000))), (7, .u (.c (.u64))), (8, .u (.c (.int)))], [(7000000, ⟨true, 0, 42, .vec .u64⟩)]⟩, .exit 0⟩)]

def env64 (N : Nat) : List (Nat × Sg) := [(65, g65 N), (165, g165 N), (159, sg3 kSub), (161, g161 N)]

theorem env64_ok (N : Nat) : EnvOK Try.prog pd.els (env64 N) := ⟨g65_ok N, ⟨g165_ok N, ⟨e159_ok, ⟨g161_ok N, trivial⟩⟩⟩⟩

theorem g64_ok (N : Nat) : SgOK Try.prog pd.els 64 (g64 N) :=
  sgK_ok pd_ok (env_look (env64_ok N)) Try.func64 (name_ne (by kernel_rfl)) [(K.ro .u64), (K.ro .u64)] [(K.ro .u64), K.int] _ N tab64 4 fun x => by kernel_rfl

/-! #### 53 -/

def b53_6 (N : Nat) (A_6 : (List UInt64) → Int → (List UInt64) → (List UInt64) → Option (List UInt64 × Int × Unit)) (a0 : List UInt64) (i7 : Int) (m1o : List UInt64) (r6o : List UInt64) : Option (List UInt64 × Int × Unit) :=
  cond (hide (leI (0 : Int) i7)) (Option.bind (p66 N r6o r6o) fun r1 => Option.bind (p162 N a0 i7) fun r2 => cond (hide (Prod.fst r2 == (1 : UInt64))) (Option.bind (p66 N (Prod.fst r1) ([(1 : UInt64)])) fun r5 => Option.bind (p65 N (Prod.fst r5) m1o) fun r6 => cond (hide (leI (0 : Int) (Prod.fst r6))) (Option.bind (p64 N (Prod.fst r5) m1o) fun r7 => A_6 a0 (hide (wr (i7 - (1 : Int)))) m1o (Prod.fst r7)) (A_6 a0 (hide (wr (i7 - (1 : Int)))) m1o (Prod.fst r5))) (Option.bind (p65 N (Prod.fst r1) m1o) fun r3 => cond (hide (leI (0 : Int) (Prod.fst r3))) (Option.bind (p64 N (Prod.fst r1) m1o) fun r4 => A_6 a0 (hide (wr (i7 - (1 : Int)))) m1o (Prod.fst r4)) (A_6 a0 (hide (wr (i7 - (1 : Int)))) m1o (Prod.fst r1)))) (Option.bind (p161 N r6o) fun r0 => some ((Prod.fst r0, (0 : Int), ())))

def l53_6 (N : Nat) (n : Nat) (a0 : List UInt64) (i7 : Int) (m1o : List UInt64) (r6o : List UInt64) : Option (List UInt64 × Int × Unit) :=
  loopN (fun A x => b53_6 N (fun a0 i7 m1o r6o => A ((a0, ((), ((), (i7, ())))), (m1o, (r6o, ())))) x.1.1 x.1.2.2.2.1 x.2.1 x.2.2.1) n ((a0, ((), ((), (i7, ())))), (m1o, (r6o, ())))

theorem l53_6_zero (N : Nat) (a0 : List UInt64) (i7 : Int) (m1o : List UInt64) (r6o : List UInt64) : l53_6 N 0 a0 i7 m1o r6o = none := rfl

theorem l53_6_succ (N : Nat) (n : Nat) (a0 : List UInt64) (i7 : Int) (m1o : List UInt64) (r6o : List UInt64) : l53_6 N (n + 1) a0 i7 m1o r6o = b53_6 N (l53_6 N n) a0 i7 m1o r6o := rfl

def p53 (N : Nat) (a0 : List UInt64) (m1 : List UInt64) : Option (List UInt64 × Int × Unit) :=
  Option.bind (p161 N m1) fun r0 => cond (hide (eqI (↑(List.length (Prod.fst r0)) : Int) (0 : Int))) (some (([], (7 : Int), ()))) (l53_6 N N a0 (hide (wr (hide (wr ((64 : Int) * (↑(List.length a0) : Int))) - (1 : Int)))) (Prod.fst r0) [])

def g53 (N : Nat) : Sg := sgK [(K.ro .u64), (K.ro .u64)] [(K.ro .u64), K.int] fun x => p53 N x.1 x.2.1

def tab53 : List (Nat × Head) := [
    (6, ⟨⟨43, [(0, .u (.c (.ro .u64))), (1, .u (.c (.row 7000000))), (6, .u (.c (.row 7000001))), (7, .u (.c (.int)))], [(7000000, ⟨true, 0, 42, .vec .u64⟩), (7000001, ⟨true, 0, 42, .vec .u64⟩)]⟩, .exit 0⟩)]

def env53 (N : Nat) : List (Nat × Sg) := [(161, g161 N), (66, g66 N), (162, g162 N), (65, g65 N), (64, g64 N)]

theorem env53_ok (N : Nat) : EnvOK Try.prog pd.els (env53 N) := ⟨g161_ok N, ⟨g66_ok N, ⟨g162_ok N, ⟨g65_ok N, ⟨g64_ok N, trivial⟩⟩⟩⟩⟩

theorem g53_ok (N : Nat) : SgOK Try.prog pd.els 53 (g53 N) :=
  sgK_ok pd_ok (env_look (env53_ok N)) Try.func53 (name_ne (by kernel_rfl)) [(K.ro .u64), (K.ro .u64)] [(K.ro .u64), K.int] _ N tab53 4 fun x => by kernel_rfl

/-! #### 58 -/

def b58_11 (N : Nat) (A_11 : Int → Int → (List UInt64) → (List UInt8) → Option (List UInt8 × Int × Unit)) (n1 : Int) (i8 : Int) (a0o : List UInt64) (out7o : List UInt8) : Option (List UInt8 × Int × Unit) :=
  cond (hide (ltI i8 n1)) (Option.bind (p165 N a0o (hide (wr (Int.tdiv i8 (8 : Int))))) fun r0 => must (leI (0 : Int) (hide (wr ((8 : Int) * hide (Int.tmod i8 (8 : Int)))))) (must (ltI (hide (wr ((8 : Int) * hide (Int.tmod i8 (8 : Int))))) (18446744073709551616 : Int)) (must (leI (0 : Int) (hide (wr (hide (wr (n1 - (1 : Int))) - i8))) && ltI (hide (wr (hide (wr (n1 - (1 : Int))) - i8))) (↑(List.length out7o) : Int)) (A_11 n1 (hide (wr (i8 + (1 : Int)))) a0o (setL out7o (Int.toNat (hide (wr (hide (wr (n1 - (1 : Int))) - i8)))) (hide (UInt8.ofNat (UInt64.toNat (hide (shr64 (Prod.fst r0) (UInt64.toNat (UInt64.ofNat (Int.toNat (hide (wr ((8 : Int) * hide (Int.tmod i8 (8 : Int)))))))))))))))))) (some ((out7o, (0 : Int), ())))

def l58_11 (N : Nat) (n : Nat) (n1 : Int) (i8 : Int) (a0o : List UInt64) (out7o : List UInt8) : Option (List UInt8 × Int × Unit) :=
  loopN (fun A x => b58_11 N (fun n1 i8 a0o out7o => A (((), (n1, ((), (i8, ())))), (a0o, (out7o, ())))) x.1.2.1 x.1.2.2.2.1 x.2.1 x.2.2.1) n (((), (n1, ((), (i8, ())))), (a0o, (out7o, ())))

theorem l58_11_zero (N : Nat) (n1 : Int) (i8 : Int) (a0o : List UInt64) (out7o : List UInt8) : l58_11 N 0 n1 i8 a0o out7o = none := rfl

theorem l58_11_succ (N : Nat) (n : Nat) (n1 : Int) (i8 : Int) (a0o : List UInt64) (out7o : List UInt8) : l58_11 N (n + 1) n1 i8 a0o out7o = b58_11 N (l58_11 N n) n1 i8 a0o out7o := rfl

def b58_5 (N : Nat) (A_5 : Int → Int → (List UInt64) → Option (List UInt8 × Int × Unit)) (n1 : Int) (i6 : Int) (a0o : List UInt64) : Option (List UInt8 × Int × Unit) :=
  cond (hide (ltI i6 (hide (wr ((8 : Int) * (↑(List.length a0o) : Int)))))) (must (leI (0 : Int) (hide (wr (Int.tdiv i6 (8 : Int)))) && ltI (hide (wr (Int.tdiv i6 (8 : Int)))) (↑(List.length a0o) : Int)) (must (leI (0 : Int) (hide (wr ((8 : Int) * hide (Int.tmod i6 (8 : Int)))))) (must (ltI (hide (wr ((8 : Int) * hide (Int.tmod i6 (8 : Int))))) (18446744073709551616 : Int)) (cond (hide !hide (UInt8.ofNat (UInt64.toNat (hide (shr64 (List.getD a0o (Int.toNat (hide (wr (Int.tdiv i6 (8 : Int))))) (0 : UInt64)) (UInt64.toNat (UInt64.ofNat (Int.toNat (hide (wr ((8 : Int) * hide (Int.tmod i6 (8 : Int)))))))))))) == (0 : UInt8)) (some (([], (8 : Int), ()))) (A_5 n1 (hide (wr (i6 + (1 : Int)))) a0o))))) (must (leI (0 : Int) n1 && (eqI n1 n1 && leN (Int.toNat n1 * (1 : Nat)) (140737488355328 : Nat))) (l58_11 N N n1 ((0 : Int)) a0o (List.replicate (Int.toNat n1) (0 : UInt8))))

def l58_5 (N : Nat) (n : Nat) (n1 : Int) (i6 : Int) (a0o : List UInt64) : Option (List UInt8 × Int × Unit) :=
  loopN (fun A x => b58_5 N (fun n1 i6 a0o => A (((), (n1, (i6, ()))), (a0o, ()))) x.1.2.1 x.1.2.2.1 x.2.1) n (((), (n1, (i6, ()))), (a0o, ()))

theorem l58_5_zero (N : Nat) (n1 : Int) (i6 : Int) (a0o : List UInt64) : l58_5 N 0 n1 i6 a0o = none := rfl

theorem l58_5_succ (N : Nat) (n : Nat) (n1 : Int) (i6 : Int) (a0o : List UInt64) : l58_5 N (n + 1) n1 i6 a0o = b58_5 N (l58_5 N n) n1 i6 a0o := rfl

def p58 (N : Nat) (a0 : List UInt64) (n1 : Int) : Option (List UInt8 × Int × Unit) :=
  Option.bind (p161 N a0) fun r0 => cond (hide (ltI n1 (0 : Int))) (some (([], (8 : Int), ()))) (cond (hide (ltI (192 : Int) n1)) (some (([], (8 : Int), ()))) (l58_5 N N n1 n1 (Prod.fst r0)))

def g58 (N : Nat) : Sg := sgK [(K.ro .u64), K.int] [(K.ro .u8), K.int] fun x => p58 N x.1 x.2.1

def tab58 : List (Nat × Head) := [
    (5, ⟨⟨59, [(0, .u (.c (.row 6000000))), (1, .u (.c (.int))), (6, .u (.c (.int)))], [(6000000, ⟨true, 0, 42, .vec .u64⟩)]⟩, .exit 0⟩),
    (11, ⟨⟨59, [(0, .u (.c (.row 12000000))), (1, .u (.c (.int))), (7, .u (.c (.row 12000001))), (8, .u (.c (.int)))], [(12000000, ⟨true, 0, 42, .vec .u64⟩), (12000001, ⟨true, 0, 5, .vec .u8⟩)]⟩, .exit 2⟩)]

def env58 (N : Nat) : List (Nat × Sg) := [(161, g161 N), (165, g165 N)]

theorem env58_ok (N : Nat) : EnvOK Try.prog pd.els (env58 N) := ⟨g161_ok N, ⟨g165_ok N, trivial⟩⟩

theorem g58_ok (N : Nat) : SgOK Try.prog pd.els 58 (g58 N) :=
  sgK_ok pd_ok (env_look (env58_ok N)) Try.func58 (name_ne (by kernel_rfl)) [(K.ro .u64), K.int] [(K.ro .u8), K.int] _ N tab58 4 fun x => by kernel_rfl

/-! #### 60 -/

def b60_3 (N : Nat) (A_3 : (List UInt8) → Int → (List UInt64) → Option (List UInt64 × Unit)) (b0 : List UInt8) (i4 : Int) (out3o : List UInt64) : Option (List UInt64 × Unit) :=
  cond (hide (ltI i4 (↑(List.length b0) : Int))) (must (leI (0 : Int) (hide (wr (Int.tdiv i4 (8 : Int)))) && ltI (hide (wr (Int.tdiv i4 (8 : Int)))) (↑(List.length out3o) : Int)) (must (leI (0 : Int) (hide (wr (hide (wr ((↑(List.length b0) : Int) - (1 : Int))) - i4))) && ltI (hide (wr (hide (wr ((↑(List.length b0) : Int) - (1 : Int))) - i4))) (↑(List.length b0) : Int)) (must (leI (0 : Int) (hide (wr ((8 : Int) * hide (Int.tmod i4 (8 : Int)))))) (must (ltI (hide (wr ((8 : Int) * hide (Int.tmod i4 (8 : Int))))) (18446744073709551616 : Int)) (must (leI (0 : Int) (hide (wr (Int.tdiv i4 (8 : Int)))) && ltI (hide (wr (Int.tdiv i4 (8 : Int)))) (↑(List.length out3o) : Int)) (A_3 b0 (hide (wr (i4 + (1 : Int)))) (setL out3o (Int.toNat (hide (wr (Int.tdiv i4 (8 : Int))))) (hide (List.getD out3o (Int.toNat (hide (wr (Int.tdiv i4 (8 : Int))))) (0 : UInt64) + hide (shl64 (hide (UInt64.ofNat (UInt8.toNat (List.getD b0 (Int.toNat (hide (wr (hide (wr ((↑(List.length b0) : Int) - (1 : Int))) - i4)))) (0 : UInt8))))) (UInt64.toNat (UInt64.ofNat (Int.toNat (hide (wr ((8 : Int) * hide (Int.tmod i4 (8 : Int)))))))))))))))))) (Option.bind (p161 N out3o) fun r0 => some ((Prod.fst r0, ())))

def l60_3 (N : Nat) (n : Nat) (b0 : List UInt8) (i4 : Int) (out3o : List UInt64) : Option (List UInt64 × Unit) :=
  loopN (fun A x => b60_3 N (fun b0 i4 out3o => A ((b0, ((), (i4, ()))), (out3o, ()))) x.1.1 x.1.2.2.1 x.2.1) n ((b0, ((), (i4, ()))), (out3o, ()))

theorem l60_3_zero (N : Nat) (b0 : List UInt8) (i4 : Int) (out3o : List UInt64) : l60_3 N 0 b0 i4 out3o = none := rfl

theorem l60_3_succ (N : Nat) (n : Nat) (b0 : List UInt8) (i4 : Int) (out3o : List UInt64) : l60_3 N (n + 1) b0 i4 out3o = b60_3 N (l60_3 N n) b0 i4 out3o := rfl

def p60 (N : Nat) (b0 : List UInt8) : Option (List UInt64 × Unit) :=
  must (leI (0 : Int) (hide (wr (Int.tdiv (hide (wr ((↑(List.length b0) : Int) + (7 : Int)))) (8 : Int)))) && (eqI (hide (wr (Int.tdiv (hide (wr ((↑(List.length b0) : Int) + (7 : Int)))) (8 : Int)))) (hide (wr (Int.tdiv (hide (wr ((↑(List.length b0) : Int) + (7 : Int)))) (8 : Int)))) && leN (Int.toNat (hide (wr (Int.tdiv (hide (wr ((↑(List.length b0) : Int) + (7 : Int)))) (8 : Int)))) * (8 : Nat)) (140737488355328 : Nat))) (l60_3 N N b0 ((0 : Int)) (List.replicate (Int.toNat (hide (wr (Int.tdiv (hide (wr ((↑(List.length b0) : Int) + (7 : Int)))) (8 : Int))))) (0 : UInt64)))

def g60 (N : Nat) : Sg := sgK [(K.ro .u8)] [(K.ro .u64)] fun x => p60 N x.1

def tab60 : List (Nat × Head) := [
    (3, ⟨⟨38, [(0, .u (.c (.ro .u8))), (3, .u (.c (.row 4000000))), (4, .u (.c (.int)))], [(4000000, ⟨true, 0, 42, .vec .u64⟩)]⟩, .exit 0⟩)]

def env60 (N : Nat) : List (Nat × Sg) := [(161, g161 N)]

theorem env60_ok (N : Nat) : EnvOK Try.prog pd.els (env60 N) := ⟨g161_ok N, trivial⟩

theorem g60_ok (N : Nat) : SgOK Try.prog pd.els 60 (g60 N) :=
  sgK_ok pd_ok (env_look (env60_ok N)) Try.func60 (name_ne (by kernel_rfl)) [(K.ro .u8)] [(K.ro .u64)] _ N tab60 4 fun x => by kernel_rfl

/-! #### 167 -/

def b167_3 (N : Nat) (A_3 : (List UInt64) → Int → (List UInt64) → Option (List UInt64 × Unit)) (a0 : List UInt64) (i4 : Int) (out3o : List UInt64) : Option (List UInt64 × Unit) :=
  cond (hide (ltI i4 (↑(List.length a0) : Int))) (must (leI (0 : Int) i4 && ltI i4 (↑(List.length a0) : Int)) (must (leI (0 : Int) i4 && ltI i4 (↑(List.length a0) : Int)) (must (leN ((List.length out3o + List.length [hide (List.getD a0 (Int.toNat i4) (0 : UInt64) &&& (4294967295 : UInt64)), hide (shr64 (List.getD a0 (Int.toNat i4) (0 : UInt64)) (UInt64.toNat (32 : UInt64)))]) * (8 : Nat)) (140737488355328 : Nat)) (A_3 a0 (hide (wr (i4 + (1 : Int)))) (out3o ++ [hide (List.getD a0 (Int.toNat i4) (0 : UInt64) &&& (4294967295 : UInt64)), hide (shr64 (List.getD a0 (Int.toNat i4) (0 : UInt64)) (UInt64.toNat (32 : UInt64)))]))))) (some ((out3o, ())))

def l167_3 (N : Nat) (n : Nat) (a0 : List UInt64) (i4 : Int) (out3o : List UInt64) : Option (List UInt64 × Unit) :=
  loopN (fun A x => b167_3 N (fun a0 i4 out3o => A ((a0, ((), (i4, ()))), (out3o, ()))) x.1.1 x.1.2.2.1 x.2.1) n ((a0, ((), (i4, ()))), (out3o, ()))

theorem l167_3_zero (N : Nat) (a0 : List UInt64) (i4 : Int) (out3o : List UInt64) : l167_3 N 0 a0 i4 out3o = none := rfl

theorem l167_3_succ (N : Nat) (n : Nat) (a0 : List UInt64) (i4 : Int) (out3o : List UInt64) : l167_3 N (n + 1) a0 i4 out3o = b167_3 N (l167_3 N n) a0 i4 out3o := rfl

def p167 (N : Nat) (a0 : List UInt64) : Option (List UInt64 × Unit) :=
  l167_3 N N a0 ((0 : Int)) []

def g167 (N : Nat) : Sg := sgK [(K.ro .u64)] [(K.ro .u64)] fun x => p167 N x.1

def tab167 : List (Nat × Head) := [
    (3, ⟨⟨25, [(0, .u (.c (.ro .u64))), (3, .u (.c (.row 4000000))), (4, .u (.c (.int)))], [(4000000, ⟨true, 0, 42, .vec .u64⟩)]⟩, .exit 0⟩)]

def env167 (N : Nat) : List (Nat × Sg) := []

theorem env167_ok (N : Nat) : EnvOK Try.prog pd.els (env167 N) := trivial

theorem g167_ok (N : Nat) : SgOK Try.prog pd.els 167 (g167 N) :=
  sgK_ok pd_ok (env_look (env167_ok N)) Try.func167 (name_ne (by kernel_rfl)) [(K.ro .u64)] [(K.ro .u64)] _ N tab167 4 fun x => by kernel_rfl

/-! #### 67 -/

def b67_16 (N : Nat) (A_16 : Int → (List UInt64) → (List UInt64) → Option (List UInt64 × Unit)) (i13 : Int) (acc7o : List UInt64) (out12o : List UInt64) : Option (List UInt64 × Unit) :=
  cond (hide (ltI i13 (↑(List.length acc7o) : Int))) (must (leI (0 : Int) i13 && ltI i13 (↑(List.length acc7o) : Int)) (cond (hide (ltI (hide (wr (i13 + (1 : Int)))) (↑(List.length acc7o) : Int))) (must (leI (0 : Int) (hide (wr (i13 + (1 : Int)))) && ltI (hide (wr (i13 + (1 : Int)))) (↑(List.length acc7o) : Int)) (must (leN ((List.length out12o + List.length [hide (List.getD acc7o (Int.toNat i13) (0 : UInt64) + hide (shl64 (List.getD acc7o (Int.toNat (hide (wr (i13 + (1 : Int))))) (0 : UInt64)) (UInt64.toNat (32 : UInt64))))]) * (8 : Nat)) (140737488355328 : Nat)) (A_16 (hide (wr (i13 + (2 : Int)))) acc7o (out12o ++ [hide (List.getD acc7o (Int.toNat i13) (0 : UInt64) + hide (shl64 (List.getD acc7o (Int.toNat (hide (wr (i13 + (1 : Int))))) (0 : UInt64)) (UInt64.toNat (32 : UInt64))))])))) (must (leN ((List.length out12o + List.length [List.getD acc7o (Int.toNat i13) (0 : UInt64)]) * (8 : Nat)) (140737488355328 : Nat)) (A_16 (hide (wr (i13 + (2 : Int)))) acc7o (out12o ++ [List.getD acc7o (Int.toNat i13) (0 : UInt64)]))))) (Option.bind (p161 N out12o) fun r0 => some ((Prod.fst r0, ())))

def l67_16 (N : Nat) (n : Nat) (i13 : Int) (acc7o : List UInt64) (out12o : List UInt64) : Option (List UInt64 × Unit) :=
  loopN (fun A x => b67_16 N (fun i13 acc7o out12o => A (((), ((), (i13, ()))), (acc7o, (out12o, ())))) x.1.2.2.1 x.2.1 x.2.2.1) n (((), ((), (i13, ()))), (acc7o, (out12o, ())))

theorem l67_16_zero (N : Nat) (i13 : Int) (acc7o : List UInt64) (out12o : List UInt64) : l67_16 N 0 i13 acc7o out12o = none := rfl

theorem l67_16_succ (N : Nat) (n : Nat) (i13 : Int) (acc7o : List UInt64) (out12o : List UInt64) : l67_16 N (n + 1) i13 acc7o out12o = b67_16 N (l67_16 N n) i13 acc7o out12o := rfl

def b67_8 (N : Nat) (A_4 : Int → (List UInt64) → (List UInt64) → (List UInt64) → Option (List UInt64 × Unit)) (A_8 : Int → UInt64 → Int → (List UInt64) → (List UInt64) → (List UInt64) → Option (List UInt64 × Unit)) (i8 : Int) (c9 : UInt64) (k10 : Int) (x5o : List UInt64) (y6o : List UInt64) (acc7o : List UInt64) : Option (List UInt64 × Unit) :=
  cond (hide (ltI k10 (↑(List.length y6o) : Int))) (must (leI (0 : Int) (hide (wr (i8 + k10))) && ltI (hide (wr (i8 + k10))) (↑(List.length acc7o) : Int)) (cond (hide (ltI k10 (↑(List.length y6o) : Int))) (must (leI (0 : Int) i8 && ltI i8 (↑(List.length x5o) : Int)) (must (leI (0 : Int) k10 && ltI k10 (↑(List.length y6o) : Int)) (must (leI (0 : Int) (hide (wr (i8 + k10))) && ltI (hide (wr (i8 + k10))) (↑(List.length acc7o) : Int)) (A_8 i8 (hide (shr64 (hide (hide (List.getD acc7o (Int.toNat (hide (wr (i8 + k10)))) (0 : UInt64) + c9) + hide (List.getD x5o (Int.toNat i8) (0 : UInt64) * List.getD y6o (Int.toNat k10) (0 : UInt64)))) (UInt64.toNat (32 : UInt64)))) (hide (wr (k10 + (1 : Int)))) x5o y6o (setL acc7o (Int.toNat (hide (wr (i8 + k10)))) (hide (hide (hide (List.getD acc7o (Int.toNat (hide (wr (i8 + k10)))) (0 : UInt64) + c9) + hide (List.getD x5o (Int.toNat i8) (0 : UInt64) * List.getD y6o (Int.toNat k10) (0 : UInt64))) &&& (4294967295 : UInt64)))))))) (must (leI (0 : Int) (hide (wr (i8 + k10))) && ltI (hide (wr (i8 + k10))) (↑(List.length acc7o) : Int)) (A_8 i8 (hide (shr64 (hide (List.getD acc7o (Int.toNat (hide (wr (i8 + k10)))) (0 : UInt64) + c9)) (UInt64.toNat (32 : UInt64)))) (hide (wr (k10 + (1 : Int)))) x5o y6o (setL acc7o (Int.toNat (hide (wr (i8 + k10)))) (hide (hide (List.getD acc7o (Int.toNat (hide (wr (i8 + k10)))) (0 : UInt64) + c9) &&& (4294967295 : UInt64)))))))) (cond (hide (ltN (UInt64.toNat (0 : UInt64)) (UInt64.toNat c9))) (must (leI (0 : Int) (hide (wr (i8 + k10))) && ltI (hide (wr (i8 + k10))) (↑(List.length acc7o) : Int)) (cond (hide (ltI k10 (↑(List.length y6o) : Int))) (must (leI (0 : Int) i8 && ltI i8 (↑(List.length x5o) : Int)) (must (leI (0 : Int) k10 && ltI k10 (↑(List.length y6o) : Int)) (must (leI (0 : Int) (hide (wr (i8 + k10))) && ltI (hide (wr (i8 + k10))) (↑(List.length acc7o) : Int)) (A_8 i8 (hide (shr64 (hide (hide (List.getD acc7o (Int.toNat (hide (wr (i8 + k10)))) (0 : UInt64) + c9) + hide (List.getD x5o (Int.toNat i8) (0 : UInt64) * List.getD y6o (Int.toNat k10) (0 : UInt64)))) (UInt64.toNat (32 : UInt64)))) (hide (wr (k10 + (1 : Int)))) x5o y6o (setL acc7o (Int.toNat (hide (wr (i8 + k10)))) (hide (hide (hide (List.getD acc7o (Int.toNat (hide (wr (i8 + k10)))) (0 : UInt64) + c9) + hide (List.getD x5o (Int.toNat i8) (0 : UInt64) * List.getD y6o (Int.toNat k10) (0 : UInt64))) &&& (4294967295 : UInt64)))))))) (must (leI (0 : Int) (hide (wr (i8 + k10))) && ltI (hide (wr (i8 + k10))) (↑(List.length acc7o) : Int)) (A_8 i8 (hide (shr64 (hide (List.getD acc7o (Int.toNat (hide (wr (i8 + k10)))) (0 : UInt64) + c9)) (UInt64.toNat (32 : UInt64)))) (hide (wr (k10 + (1 : Int)))) x5o y6o (setL acc7o (Int.toNat (hide (wr (i8 + k10)))) (hide (hide (List.getD acc7o (Int.toNat (hide (wr (i8 + k10)))) (0 : UInt64) + c9) &&& (4294967295 : UInt64)))))))) (A_4 (hide (wr (i8 + (1 : Int)))) x5o y6o acc7o))

def l67_8 (N : Nat) (A_4 : Int → (List UInt64) → (List UInt64) → (List UInt64) → Option (List UInt64 × Unit)) (n : Nat) (i8 : Int) (c9 : UInt64) (k10 : Int) (x5o : List UInt64) (y6o : List UInt64) (acc7o : List UInt64) : Option (List UInt64 × Unit) :=
  loopN (fun A x => b67_8 N A_4 (fun i8 c9 k10 x5o y6o acc7o => A (((), ((), ((), (i8, (c9, (k10, ())))))), (x5o, (y6o, (acc7o, ()))))) x.1.2.2.2.1 x.1.2.2.2.2.1 x.1.2.2.2.2.2.1 x.2.1 x.2.2.1 x.2.2.2.1) n (((), ((), ((), (i8, (c9, (k10, ())))))), (x5o, (y6o, (acc7o, ()))))

theorem l67_8_zero (N : Nat) (A_4 : Int → (List UInt64) → (List UInt64) → (List UInt64) → Option (List UInt64 × Unit)) (i8 : Int) (c9 : UInt64) (k10 : Int) (x5o : List UInt64) (y6o : List UInt64) (acc7o : List UInt64) : l67_8 N A_4 0 i8 c9 k10 x5o y6o acc7o = none := rfl

theorem l67_8_succ (N : Nat) (A_4 : Int → (List UInt64) → (List UInt64) → (List UInt64) → Option (List UInt64 × Unit)) (n : Nat) (i8 : Int) (c9 : UInt64) (k10 : Int) (x5o : List UInt64) (y6o : List UInt64) (acc7o : List UInt64) : l67_8 N A_4 (n + 1) i8 c9 k10 x5o y6o acc7o = b67_8 N A_4 (l67_8 N A_4 n) i8 c9 k10 x5o y6o acc7o := rfl

def b67_4 (N : Nat) (A_4 : Int → (List UInt64) → (List UInt64) → (List UInt64) → Option (List UInt64 × Unit)) (i8 : Int) (x5o : List UInt64) (y6o : List UInt64) (acc7o : List UInt64) : Option (List UInt64 × Unit) :=
  cond (hide (ltI i8 (↑(List.length x5o) : Int))) (l67_8 N A_4 N i8 ((0 : UInt64)) ((0 : Int)) x5o y6o acc7o) (l67_16 N N ((0 : Int)) acc7o [])

def l67_4 (N : Nat) (n : Nat) (i8 : Int) (x5o : List UInt64) (y6o : List UInt64) (acc7o : List UInt64) : Option (List UInt64 × Unit) :=
  loopN (fun A x => b67_4 N (fun i8 x5o y6o acc7o => A (((), ((), ((), (i8, ())))), (x5o, (y6o, (acc7o, ()))))) x.1.2.2.2.1 x.2.1 x.2.2.1 x.2.2.2.1) n (((), ((), ((), (i8, ())))), (x5o, (y6o, (acc7o, ()))))

theorem l67_4_zero (N : Nat) (i8 : Int) (x5o : List UInt64) (y6o : List UInt64) (acc7o : List UInt64) : l67_4 N 0 i8 x5o y6o acc7o = none := rfl

theorem l67_4_succ (N : Nat) (n : Nat) (i8 : Int) (x5o : List UInt64) (y6o : List UInt64) (acc7o : List UInt64) : l67_4 N (n + 1) i8 x5o y6o acc7o = b67_4 N (l67_4 N n) i8 x5o y6o acc7o := rfl

def p67 (N : Nat) (a0 : List UInt64) (b1 : List UInt64) : Option (List UInt64 × Unit) :=
  Option.bind (p167 N a0) fun r0 => Option.bind (p167 N b1) fun r1 => must (leI (0 : Int) (hide (wr (hide (wr ((↑(List.length (Prod.fst r0)) : Int) + (↑(List.length (Prod.fst r1)) : Int))) + (1 : Int)))) && (eqI (hide (wr (hide (wr ((↑(List.length (Prod.fst r0)) : Int) + (↑(List.length (Prod.fst r1)) : Int))) + (1 : Int)))) (hide (wr (hide (wr ((↑(List.length (Prod.fst r0)) : Int) + (↑(List.length (Prod.fst r1)) : Int))) + (1 : Int)))) && leN (Int.toNat (hide (wr (hide (wr ((↑(List.length (Prod.fst r0)) : Int) + (↑(List.length (Prod.fst r1)) : Int))) + (1 : Int)))) * (8 : Nat)) (140737488355328 : Nat))) (l67_4 N N ((0 : Int)) (Prod.fst r0) (Prod.fst r1) (List.replicate (Int.toNat (hide (wr (hide (wr ((↑(List.length (Prod.fst r0)) : Int) + (↑(List.length (Prod.fst r1)) : Int))) + (1 : Int))))) (0 : UInt64)))

def g67 (N : Nat) : Sg := sgK [(K.ro .u64), (K.ro .u64)] [(K.ro .u64)] fun x => p67 N x.1 x.2.1

def tab67 : List (Nat × Head) := [
    (4, ⟨⟨103, [(5, .u (.c (.row 5000000))), (6, .u (.c (.row 5000001))), (7, .u (.c (.row 5000002))), (8, .u (.c (.int)))], [(5000000, ⟨true, 0, 42, .vec .u64⟩), (5000001, ⟨true, 0, 42, .vec .u64⟩), (5000002, ⟨true, 0, 42, .vec .u64⟩)]⟩, .exit 0⟩),
    (16, ⟨⟨103, [(7, .u (.c (.row 17000000))), (12, .u (.c (.row 17000001))), (13, .u (.c (.int)))], [(17000000, ⟨true, 0, 42, .vec .u64⟩), (17000001, ⟨true, 0, 42, .vec .u64⟩)]⟩, .exit 4⟩),
    (8, ⟨⟨103, [(5, .u (.c (.row 9000000))), (6, .u (.c (.row 9000001))), (7, .u (.c (.row 9000002))), (8, .u (.c (.int))), (9, .u (.c (.u64))), (10, .u (.c (.int)))], [(9000000, ⟨true, 0, 42, .vec .u64⟩), (9000001, ⟨true, 0, 42, .vec .u64⟩), (9000002, ⟨true, 0, 42, .vec .u64⟩)]⟩, .exit 2⟩)]

def env67 (N : Nat) : List (Nat × Sg) := [(167, g167 N), (161, g161 N)]

theorem env67_ok (N : Nat) : EnvOK Try.prog pd.els (env67 N) := ⟨g167_ok N, ⟨g161_ok N, trivial⟩⟩

theorem g67_ok (N : Nat) : SgOK Try.prog pd.els 67 (g67 N) :=
  sgK_ok pd_ok (env_look (env67_ok N)) Try.func67 (name_ne (by kernel_rfl)) [(K.ro .u64), (K.ro .u64)] [(K.ro .u64)] _ N tab67 4 fun x => by kernel_rfl

/-! #### 54 -/

def b54_4 (N : Nat) (A_4 : (List UInt64) → (List UInt64) → Int → Option (Bool × Unit)) (a0 : List UInt64) (b1 : List UInt64) (i5 : Int) : Option (Bool × Unit) :=
  cond (hide (ltI i5 (↑(List.length a0) : Int))) (must (leI (0 : Int) i5 && ltI i5 (↑(List.length a0) : Int)) (must (leI (0 : Int) i5 && ltI i5 (↑(List.length b1) : Int)) (cond (hide !List.getD a0 (Int.toNat i5) (0 : UInt64) == List.getD b1 (Int.toNat i5) (0 : UInt64)) (some ((false, ()))) (A_4 a0 b1 (hide (wr (i5 + (1 : Int)))))))) (some ((true, ())))

def l54_4 (N : Nat) (n : Nat) (a0 : List UInt64) (b1 : List UInt64) (i5 : Int) : Option (Bool × Unit) :=
  loopN (fun A x => b54_4 N (fun a0 b1 i5 => A ((a0, (b1, (i5, ()))), ())) x.1.1 x.1.2.1 x.1.2.2.1) n ((a0, (b1, (i5, ()))), ())

theorem l54_4_zero (N : Nat) (a0 : List UInt64) (b1 : List UInt64) (i5 : Int) : l54_4 N 0 a0 b1 i5 = none := rfl

theorem l54_4_succ (N : Nat) (n : Nat) (a0 : List UInt64) (b1 : List UInt64) (i5 : Int) : l54_4 N (n + 1) a0 b1 i5 = b54_4 N (l54_4 N n) a0 b1 i5 := rfl

def p54 (N : Nat) (a0 : List UInt64) (b1 : List UInt64) : Option (Bool × Unit) :=
  cond (hide !eqI (↑(List.length a0) : Int) (↑(List.length b1) : Int)) (some ((false, ()))) (l54_4 N N a0 b1 ((0 : Int)))

def g54 (N : Nat) : Sg := sgK [(K.ro .u64), (K.ro .u64)] [K.bool] fun x => p54 N x.1 x.2.1

def tab54 : List (Nat × Head) := [
    (4, ⟨⟨26, [(0, .u (.c (.ro .u64))), (1, .u (.c (.ro .u64))), (5, .u (.c (.int)))], []⟩, .exit 0⟩)]

def env54 (N : Nat) : List (Nat × Sg) := []

theorem env54_ok (N : Nat) : EnvOK Try.prog pd.els (env54 N) := trivial

theorem g54_ok (N : Nat) : SgOK Try.prog pd.els 54 (g54 N) :=
  sgK_ok pd_ok (env_look (env54_ok N)) Try.func54 (name_ne (by kernel_rfl)) [(K.ro .u64), (K.ro .u64)] [K.bool] _ N tab54 4 fun x => by kernel_rfl

/-! #### 51 -/

def p51 (N : Nat) : Option (Bool × Unit) :=
  Option.bind (p52 N ([(7 : UInt64)]) ([(4 : UInt64)])) fun r0 => Option.bind (p57 N ([(258 : UInt64)]) ((2 : Int))) fun r1 => cond (hide (eqI (Prod.fst (Prod.snd r0)) (0 : Int))) (cond (hide (eqI (↑(List.length (Prod.fst r0)) : Int) (1 : Int))) (must (ltI (0 : Int) (↑(List.length (Prod.fst r0)) : Int)) (cond (hide (List.getD (Prod.fst r0) (0 : Nat) (0 : UInt64) == (3 : UInt64))) (cond (hide (eqI (Prod.fst (Prod.snd r1)) (0 : Int))) (cond (hide (eqB (Prod.fst r1) [(1 : UInt8), (2 : UInt8)])) (Option.bind (p62 N ([(1 : UInt64)]) []) fun r2 => cond (hide (eqI (↑(List.length (Prod.fst r2)) : Int) (1 : Int))) (Option.bind (p55 N ([(9223372036854775808 : UInt64)]) ([(2 : UInt64)])) fun r3 => cond (hide (eqI (↑(List.length (Prod.fst r3)) : Int) (2 : Int))) (Option.bind (p61 N ([(1 : UInt64)]) []) fun r4 => some ((hide (eqI (Prod.fst r4) (1 : Int)), ()))) (some ((false, ())))) (some ((false, ())))) (some ((false, ())))) (some ((false, ())))) (some ((false, ()))))) (some ((false, ())))) (some ((false, ())))

def g51 (N : Nat) : Sg := sgK [] [K.bool] fun x => p51 N 

def tab51 : List (Nat × Head) := [
    ]

def env51 (N : Nat) : List (Nat × Sg) := [(52, g52 N), (57, g57 N), (62, g62 N), (55, g55 N), (61, g61 N)]

theorem env51_ok (N : Nat) : EnvOK Try.prog pd.els (env51 N) := ⟨g52_ok N, ⟨g57_ok N, ⟨g62_ok N, ⟨g55_ok N, ⟨g61_ok N, trivial⟩⟩⟩⟩⟩

theorem g51_ok (N : Nat) : SgOK Try.prog pd.els 51 (g51 N) :=
  sgK_ok pd_ok (env_look (env51_ok N)) Try.func51 (name_ne (by kernel_rfl)) [] [K.bool] _ N tab51 4 fun x => by kernel_rfl

end Go.Proofs.Ytgimohchocjgcaa.V
