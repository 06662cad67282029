import Derived.Test.YtgimohchocjgcaaVTM
import Derived.KernelRfl
set_option linter.unusedVariables false
set_option linter.unusedSimpArgs false
namespace Go.Proofs.Ytgimohchocjgcaa.V
def p169 (N : Nat) : Option (Fr × Unit) :=
  some (({ a0 := (18446744069414584321 : UInt64), a1 := (6034159408538082302 : UInt64), a2 := (3691218898639771653 : UInt64), a3 := (8353516859464449352 : UInt64) }, ()))
def g169 (N : Nat) : Sg := sgK [] [K.fr] fun x => p169 N
def tab169 : List (Nat × Head) := [
    ]
def env169 (N : Nat) : List (Nat × Sg) := []
theorem env169_ok (N : Nat) : EnvOK Try.prog pd.els (env169 N) := trivial
theorem g169_ok (N : Nat) : SgOK Try.prog pd.els 169 (g169 N) :=
  sgK_ok pd_ok (env_look (env169_ok N)) Try.func169 (name_ne (by kernel_rfl)) [] [K.fr] _ N tab169 4 fun x => by kernel_rfl
def p74 (N : Nat) : Option (List UInt64 × Unit) :=
  Option.bind (p169 N) fun r0 => some ((List.take (Int.toNat ((↑(4 : Nat) : Int) - (0 : Int))) [Fr.a0 (Prod.fst r0), Fr.a1 (Prod.fst r0), Fr.a2 (Prod.fst r0), Fr.a3 (Prod.fst r0)], ()))
def g74 (N : Nat) : Sg := sgK [] [(K.view .u64)] fun x => p74 N
def tab74 : List (Nat × Head) := [
    ]
def env74 (N : Nat) : List (Nat × Sg) := [(169, g169 N)]
theorem env74_ok (N : Nat) : EnvOK Try.prog pd.els (env74 N) := ⟨g169_ok N, trivial⟩
theorem g74_ok (N : Nat) : SgOK Try.prog pd.els 74 (g74 N) :=
  sgK_ok pd_ok (env_look (env74_ok N)) Try.func74 (name_ne (by kernel_rfl)) [] [(K.view .u64)] _ N tab74 4 fun x => by kernel_rfl
def p88 (N : Nat) : Option (List UInt64 × Unit) :=
  some (([(18446744069414584321 : UInt64), (6034159408538082302 : UInt64), (3691218898639771653 : UInt64), (8353516859464449352 : UInt64)], ()))
def g88 (N : Nat) : Sg := sgK [] [(K.ro .u64)] fun x => p88 N
def tab88 : List (Nat × Head) := [
    ]
def env88 (N : Nat) : List (Nat × Sg) := []
theorem env88_ok (N : Nat) : EnvOK Try.prog pd.els (env88 N) := trivial
theorem g88_ok (N : Nat) : SgOK Try.prog pd.els 88 (g88 N) :=
  sgK_ok pd_ok (env_look (env88_ok N)) Try.func88 (name_ne (by kernel_rfl)) [] [(K.ro .u64)] _ N tab88 4 fun x => by kernel_rfl
def b168_2 (N : Nat) (A_2 : (List UInt64) → (List UInt64) → Int → Option (Bool × Unit)) (a0 : List UInt64) (m1 : List UInt64) (i5 : Int) : Option (Bool × Unit) :=
  cond (hide (leI (0 : Int) i5)) (must (leI (0 : Int) i5 && ltI i5 (↑(List.length a0) : Int)) (must (leI (0 : Int) i5 && ltI i5 (↑(List.length m1) : Int)) (cond (hide !List.getD a0 (Int.toNat i5) (0 : UInt64) == List.getD m1 (Int.toNat i5) (0 : UInt64)) (must (leI (0 : Int) i5 && ltI i5 (↑(List.length a0) : Int)) (must (leI (0 : Int) i5 && ltI i5 (↑(List.length m1) : Int)) (some ((hide (ltN (UInt64.toNat (List.getD a0 (Int.toNat i5) (0 : UInt64))) (UInt64.toNat (List.getD m1 (Int.toNat i5) (0 : UInt64)))), ()))))) (A_2 a0 m1 (hide (wr (i5 - (1 : Int)))))))) (some ((false, ())))
def l168_2 (N : Nat) (n : Nat) (a0 : List UInt64) (m1 : List UInt64) (i5 : Int) : Option (Bool × Unit) :=
  loopN (fun A x => b168_2 N (fun a0 m1 i5 => A ((a0, (m1, (i5, ()))), ())) x.1.1 x.1.2.1 x.1.2.2.1) n ((a0, (m1, (i5, ()))), ())
def p168 (N : Nat) (a0 : List UInt64) (m1 : List UInt64) : Option (Bool × Unit) :=
  l168_2 N N a0 m1 (hide (wr ((↑(List.length m1) : Int) - (1 : Int))))
def g168 (N : Nat) : Sg := sgK [(K.ro .u64), (K.ro .u64)] [K.bool] fun x => p168 N x.1 x.2.1
def tab168 : List (Nat × Head) := [
    (2, ⟨⟨31, [(0, .u (.c (.ro .u64))), (1, .u (.c (.ro .u64))), (5, .u (.c (.int)))], []⟩, .exit 0⟩)]
def env168 (N : Nat) : List (Nat × Sg) := []
theorem env168_ok (N : Nat) : EnvOK Try.prog pd.els (env168 N) := trivial
theorem g168_ok (N : Nat) : SgOK Try.prog pd.els 168 (g168 N) :=
  sgK_ok pd_ok (env_look (env168_ok N)) Try.func168 (name_ne (by kernel_rfl)) [(K.ro .u64), (K.ro .u64)] [K.bool] _ N tab168 4 fun x => by kernel_rfl
def p69 (N : Nat) (a0 : Fr) : Option (Bool × Unit) :=
  Option.bind (p88 N) fun r0 => Option.bind (p168 N (List.take (Int.toNat ((↑(4 : Nat) : Int) - (0 : Int))) [Fr.a0 a0, Fr.a1 a0, Fr.a2 a0, Fr.a3 a0]) (Prod.fst r0)) fun r1 => some ((Prod.fst r1, ()))
def g69 (N : Nat) : Sg := sgK [K.fr] [K.bool] fun x => p69 N x.1
def tab69 : List (Nat × Head) := [
    ]
def env69 (N : Nat) : List (Nat × Sg) := [(88, g88 N), (168, g168 N)]
theorem env69_ok (N : Nat) : EnvOK Try.prog pd.els (env69 N) := ⟨g88_ok N, ⟨g168_ok N, trivial⟩⟩
theorem g69_ok (N : Nat) : SgOK Try.prog pd.els 69 (g69 N) :=
  sgK_ok pd_ok (env_look (env69_ok N)) Try.func69 (name_ne (by kernel_rfl)) [K.fr] [K.bool] _ N tab69 4 fun x => by kernel_rfl
def p173 (N : Nat) (n0 : UInt64) : Option (Fr × Unit) :=
  some (({ a0 := n0, a1 := (0 : UInt64), a2 := (0 : UInt64), a3 := (0 : UInt64) }, ()))
def g173 (N : Nat) : Sg := sgK [K.u64] [K.fr] fun x => p173 N x.1
def tab173 : List (Nat × Head) := [
    ]
def env173 (N : Nat) : List (Nat × Sg) := []
theorem env173_ok (N : Nat) : EnvOK Try.prog pd.els (env173 N) := trivial
theorem g173_ok (N : Nat) : SgOK Try.prog pd.els 173 (g173 N) :=
  sgK_ok pd_ok (env_look (env173_ok N)) Try.func173 (name_ne (by kernel_rfl)) [K.u64] [K.fr] _ N tab173 4 fun x => by kernel_rfl
def b214_2 (N : Nat) (A_2 : Nat → Nat → (List UInt64) → UInt64 → Int → (List UInt64) → Option (List UInt64 × Unit)) (t0f : Nat) (t0n : Nat) (m1 : List UInt64) (c4 : UInt64) (i5 : Int) (t0o : List UInt64) : Option (List UInt64 × Unit) :=
  cond (hide (ltI i5 (↑(List.length m1) : Int))) (must (leI (0 : Int) i5 && ltI i5 (↑t0n : Int)) (must (leI (0 : Int) i5 && ltI i5 (↑(List.length m1) : Int)) (Option.bind (kSub (List.getD t0o (t0f + Int.toNat i5) (0 : UInt64)) (List.getD m1 (Int.toNat i5) (0 : UInt64)) c4) fun r0 => must (leI (0 : Int) i5 && ltI i5 (↑t0n : Int)) (A_2 t0f t0n m1 (Prod.snd r0) (hide (wr (i5 + (1 : Int)))) (setL t0o (t0f + Int.toNat i5) (Prod.fst r0)))))) (some ((t0o, ())))
def l214_2 (N : Nat) (n : Nat) (t0f : Nat) (t0n : Nat) (m1 : List UInt64) (c4 : UInt64) (i5 : Int) (t0o : List UInt64) : Option (List UInt64 × Unit) :=
  loopN (fun A x => b214_2 N (fun t0f t0n m1 c4 i5 t0o => A (((t0f, t0n), (m1, (c4, (i5, ())))), (t0o, ()))) x.1.1.1 x.1.1.2 x.1.2.1 x.1.2.2.1 x.1.2.2.2.1 x.2.1) n (((t0f, t0n), (m1, (c4, (i5, ())))), (t0o, ()))
def p214 (N : Nat) (t0 : List UInt64) (m1 : List UInt64) : Option (List UInt64 × Unit) :=
  l214_2 N N ((0 : Nat)) (List.length t0) m1 ((0 : UInt64)) ((0 : Int)) t0
def g214 (N : Nat) : Sg := sgIO 1 [(K.vec .u64), (K.ro .u64)] [(K.vec .u64)] fun x => p214 N x.1 x.2.1
def tab214 : List (Nat × Head) := [
    (2, ⟨⟨28, [(0, .u (.c (.sl 3000000))), (1, .u (.c (.ro .u64))), (4, .u (.c (.u64))), (5, .u (.c (.int)))], [(3000000, ⟨false, 0, 1000000, .vec .u64⟩)]⟩, .exit 0⟩)]
def env214 (N : Nat) : List (Nat × Sg) := [(159, sg3 kSub)]
theorem env214_ok (N : Nat) : EnvOK Try.prog pd.els (env214 N) := ⟨e159_ok, trivial⟩
theorem g214_ok (N : Nat) : SgOK Try.prog pd.els 214 (g214 N) :=
  sgIO_ok pd_ok (env_look (env214_ok N)) Try.func214 (name_ne (by kernel_rfl)) 1 (by decide) [(K.vec .u64), (K.ro .u64)] [(K.vec .u64)] _ N tab214 4 fun x => by kernel_rfl
def b184_27 (N : Nat) (A_10 : (List UInt64) → (List UInt64) → (List UInt64) → Int → UInt64 → Int → (List UInt64) → Option (List UInt64 × Unit)) (A_27 : (List UInt64) → (List UInt64) → (List UInt64) → Int → UInt64 → Int → UInt64 → UInt64 → Int → (List UInt64) → Option (List UInt64 × Unit)) (a0 : List UInt64) (b1 : List UInt64) (m2 : List UInt64) (n7 : Int) (inv8 : UInt64) (i11 : Int) (c12 : UInt64) (q21 : UInt64) (k24 : Int) (t10o : List UInt64) : Option (List UInt64 × Unit) :=
  cond (hide (ltI k24 n7)) (must (leI (0 : Int) k24 && ltI k24 (↑(List.length m2) : Int)) (Option.bind (p163 N q21 (List.getD m2 (Int.toNat k24) (0 : UInt64))) fun r1 => must (leI (0 : Int) k24 && ltI k24 (↑(List.length t10o) : Int)) (Option.bind (kAdd (List.getD t10o (Int.toNat k24) (0 : UInt64)) (Prod.fst (Prod.snd r1)) ((0 : UInt64))) fun r2 => Option.bind (kAdd (Prod.fst r2) c12 ((0 : UInt64))) fun r3 => must (leI (0 : Int) (hide (wr (k24 - (1 : Int)))) && ltI (hide (wr (k24 - (1 : Int)))) (↑(List.length t10o) : Int)) (A_27 a0 b1 m2 n7 inv8 i11 (hide (hide (Prod.fst r1 + Prod.snd r2) + Prod.snd r3)) q21 (hide (wr (k24 + (1 : Int)))) (setL t10o (Int.toNat (hide (wr (k24 - (1 : Int))))) (Prod.fst r3)))))) (must (leI (0 : Int) n7 && ltI n7 (↑(List.length t10o) : Int)) (Option.bind (kAdd (List.getD t10o (Int.toNat n7) (0 : UInt64)) c12 ((0 : UInt64))) fun r0 => must (leI (0 : Int) (hide (wr (n7 + (1 : Int)))) && ltI (hide (wr (n7 + (1 : Int)))) (↑(List.length t10o) : Int)) (must (leI (0 : Int) (hide (wr (n7 - (1 : Int)))) && ltI (hide (wr (n7 - (1 : Int)))) (↑(List.length t10o) : Int)) (must (leI (0 : Int) n7 && ltI n7 (↑(List.length (setL t10o (Int.toNat (hide (wr (n7 - (1 : Int))))) (Prod.fst r0))) : Int)) (A_10 a0 b1 m2 n7 inv8 (hide (wr (i11 + (1 : Int)))) (setL (setL t10o (Int.toNat (hide (wr (n7 - (1 : Int))))) (Prod.fst r0)) (Int.toNat n7) (hide (List.getD t10o (Int.toNat (hide (wr (n7 + (1 : Int))))) (0 : UInt64) + Prod.snd r0))))))))
def l184_27 (N : Nat) (A_10 : (List UInt64) → (List UInt64) → (List UInt64) → Int → UInt64 → Int → (List UInt64) → Option (List UInt64 × Unit)) (n : Nat) (a0 : List UInt64) (b1 : List UInt64) (m2 : List UInt64) (n7 : Int) (inv8 : UInt64) (i11 : Int) (c12 : UInt64) (q21 : UInt64) (k24 : Int) (t10o : List UInt64) : Option (List UInt64 × Unit) :=
  loopN (fun A x => b184_27 N A_10 (fun a0 b1 m2 n7 inv8 i11 c12 q21 k24 t10o => A ((a0, (b1, (m2, (n7, (inv8, ((), (i11, (c12, (q21, (k24, ())))))))))), (t10o, ()))) x.1.1 x.1.2.1 x.1.2.2.1 x.1.2.2.2.1 x.1.2.2.2.2.1 x.1.2.2.2.2.2.2.1 x.1.2.2.2.2.2.2.2.1 x.1.2.2.2.2.2.2.2.2.1 x.1.2.2.2.2.2.2.2.2.2.1 x.2.1) n ((a0, (b1, (m2, (n7, (inv8, ((), (i11, (c12, (q21, (k24, ())))))))))), (t10o, ()))
def b184_14 (N : Nat) (A_10 : (List UInt64) → (List UInt64) → (List UInt64) → Int → UInt64 → Int → (List UInt64) → Option (List UInt64 × Unit)) (A_14 : (List UInt64) → (List UInt64) → (List UInt64) → Int → UInt64 → Int → UInt64 → Int → (List UInt64) → Option (List UInt64 × Unit)) (a0 : List UInt64) (b1 : List UInt64) (m2 : List UInt64) (n7 : Int) (inv8 : UInt64) (i11 : Int) (c12 : UInt64) (k13 : Int) (t10o : List UInt64) : Option (List UInt64 × Unit) :=
  cond (hide (ltI k13 n7)) (must (leI (0 : Int) i11 && ltI i11 (↑(List.length a0) : Int)) (must (leI (0 : Int) k13 && ltI k13 (↑(List.length b1) : Int)) (Option.bind (p163 N (List.getD a0 (Int.toNat i11) (0 : UInt64)) (List.getD b1 (Int.toNat k13) (0 : UInt64))) fun r3 => must (leI (0 : Int) k13 && ltI k13 (↑(List.length t10o) : Int)) (Option.bind (kAdd (List.getD t10o (Int.toNat k13) (0 : UInt64)) (Prod.fst (Prod.snd r3)) ((0 : UInt64))) fun r4 => Option.bind (kAdd (Prod.fst r4) c12 ((0 : UInt64))) fun r5 => must (leI (0 : Int) k13 && ltI k13 (↑(List.length t10o) : Int)) (A_14 a0 b1 m2 n7 inv8 i11 (hide (hide (Prod.fst r3 + Prod.snd r4) + Prod.snd r5)) (hide (wr (k13 + (1 : Int)))) (setL t10o (Int.toNat k13) (Prod.fst r5))))))) (must (leI (0 : Int) n7 && ltI n7 (↑(List.length t10o) : Int)) (Option.bind (kAdd (List.getD t10o (Int.toNat n7) (0 : UInt64)) c12 ((0 : UInt64))) fun r0 => must (leI (0 : Int) n7 && ltI n7 (↑(List.length t10o) : Int)) (must (leI (0 : Int) (hide (wr (n7 + (1 : Int)))) && ltI (hide (wr (n7 + (1 : Int)))) (↑(List.length (setL t10o (Int.toNat n7) (Prod.fst r0))) : Int)) (must (ltI (0 : Int) (↑(List.length (setL (setL t10o (Int.toNat n7) (Prod.fst r0)) (Int.toNat (hide (wr (n7 + (1 : Int))))) (Prod.snd r0))) : Int)) (must (ltI (0 : Int) (↑(List.length m2) : Int)) (Option.bind (p163 N (hide (List.getD (setL (setL t10o (Int.toNat n7) (Prod.fst r0)) (Int.toNat (hide (wr (n7 + (1 : Int))))) (Prod.snd r0)) (0 : Nat) (0 : UInt64) * inv8)) (List.getD m2 (0 : Nat) (0 : UInt64))) fun r1 => must (ltI (0 : Int) (↑(List.length (setL (setL t10o (Int.toNat n7) (Prod.fst r0)) (Int.toNat (hide (wr (n7 + (1 : Int))))) (Prod.snd r0))) : Int)) (Option.bind (kAdd (List.getD (setL (setL t10o (Int.toNat n7) (Prod.fst r0)) (Int.toNat (hide (wr (n7 + (1 : Int))))) (Prod.snd r0)) (0 : Nat) (0 : UInt64)) (Prod.fst (Prod.snd r1)) ((0 : UInt64))) fun r2 => l184_27 N A_10 N a0 b1 m2 n7 inv8 i11 (hide (Prod.fst r1 + Prod.snd r2)) (hide (List.getD (setL (setL t10o (Int.toNat n7) (Prod.fst r0)) (Int.toNat (hide (wr (n7 + (1 : Int))))) (Prod.snd r0)) (0 : Nat) (0 : UInt64) * inv8)) ((1 : Int)) (setL (setL t10o (Int.toNat n7) (Prod.fst r0)) (Int.toNat (hide (wr (n7 + (1 : Int))))) (Prod.snd r0)))))))))
def l184_14 (N : Nat) (A_10 : (List UInt64) → (List UInt64) → (List UInt64) → Int → UInt64 → Int → (List UInt64) → Option (List UInt64 × Unit)) (n : Nat) (a0 : List UInt64) (b1 : List UInt64) (m2 : List UInt64) (n7 : Int) (inv8 : UInt64) (i11 : Int) (c12 : UInt64) (k13 : Int) (t10o : List UInt64) : Option (List UInt64 × Unit) :=
  loopN (fun A x => b184_14 N A_10 (fun a0 b1 m2 n7 inv8 i11 c12 k13 t10o => A ((a0, (b1, (m2, (n7, (inv8, ((), (i11, (c12, (k13, ()))))))))), (t10o, ()))) x.1.1 x.1.2.1 x.1.2.2.1 x.1.2.2.2.1 x.1.2.2.2.2.1 x.1.2.2.2.2.2.2.1 x.1.2.2.2.2.2.2.2.1 x.1.2.2.2.2.2.2.2.2.1 x.2.1) n ((a0, (b1, (m2, (n7, (inv8, ((), (i11, (c12, (k13, ()))))))))), (t10o, ()))
def b184_10 (N : Nat) (A_10 : (List UInt64) → (List UInt64) → (List UInt64) → Int → UInt64 → Int → (List UInt64) → Option (List UInt64 × Unit)) (a0 : List UInt64) (b1 : List UInt64) (m2 : List UInt64) (n7 : Int) (inv8 : UInt64) (i11 : Int) (t10o : List UInt64) : Option (List UInt64 × Unit) :=
  cond (hide (ltI i11 n7)) (l184_14 N A_10 N a0 b1 m2 n7 inv8 i11 ((0 : UInt64)) ((0 : Int)) t10o) (must (leI (0 : Int) n7 && ltI n7 (↑(List.length t10o) : Int)) (cond (hide !List.getD t10o (Int.toNat n7) (0 : UInt64) == (0 : UInt64)) (must (ltN (0 : Nat) (List.length t10o)) (Option.bind (p214 N t10o m2) fun r2 => must (Nat.beq (List.length (Prod.fst r2)) (List.length t10o)) (must (leI (0 : Int) n7 && leI n7 (↑(List.length (Prod.fst r2)) : Int)) (must (ltN (0 : Nat) (Int.toNat (n7 - (0 : Int)))) (some ((List.take (Int.toNat (n7 - (0 : Int))) (Prod.fst r2), ()))))))) (must (leI (0 : Int) n7 && leI n7 (↑(List.length t10o) : Int)) (Option.bind (p168 N (List.take (Int.toNat (n7 - (0 : Int))) t10o) m2) fun r0 => cond (hide !Prod.fst r0) (must (ltN (0 : Nat) (List.length t10o)) (Option.bind (p214 N t10o m2) fun r1 => must (Nat.beq (List.length (Prod.fst r1)) (List.length t10o)) (must (leI (0 : Int) n7 && leI n7 (↑(List.length (Prod.fst r1)) : Int)) (must (ltN (0 : Nat) (Int.toNat (n7 - (0 : Int)))) (some ((List.take (Int.toNat (n7 - (0 : Int))) (Prod.fst r1), ()))))))) (must (leI (0 : Int) n7 && leI n7 (↑(List.length t10o) : Int)) (must (ltN (0 : Nat) (Int.toNat (n7 - (0 : Int)))) (some ((List.take (Int.toNat (n7 - (0 : Int))) t10o, ())))))))))
def l184_10 (N : Nat) (n : Nat) (a0 : List UInt64) (b1 : List UInt64) (m2 : List UInt64) (n7 : Int) (inv8 : UInt64) (i11 : Int) (t10o : List UInt64) : Option (List UInt64 × Unit) :=
  loopN (fun A x => b184_10 N (fun a0 b1 m2 n7 inv8 i11 t10o => A ((a0, (b1, (m2, (n7, (inv8, ((), (i11, ()))))))), (t10o, ()))) x.1.1 x.1.2.1 x.1.2.2.1 x.1.2.2.2.1 x.1.2.2.2.2.1 x.1.2.2.2.2.2.2.1 x.2.1) n ((a0, (b1, (m2, (n7, (inv8, ((), (i11, ()))))))), (t10o, ()))
def b184_4 (N : Nat) (A_4 : (List UInt64) → (List UInt64) → (List UInt64) → Int → UInt64 → Int → Option (List UInt64 × Unit)) (a0 : List UInt64) (b1 : List UInt64) (m2 : List UInt64) (n7 : Int) (inv8 : UInt64) (i9 : Int) : Option (List UInt64 × Unit) :=
  cond (hide (ltI i9 (6 : Int))) (must (ltI (0 : Int) (↑(List.length m2) : Int)) (A_4 a0 b1 m2 n7 (hide (inv8 * hide ((2 : UInt64) - hide (List.getD m2 (0 : Nat) (0 : UInt64) * inv8)))) (hide (wr (i9 + (1 : Int)))))) (must (leI (0 : Int) (hide (wr (n7 + (2 : Int)))) && (eqI (hide (wr (n7 + (2 : Int)))) (hide (wr (n7 + (2 : Int)))) && leN (Int.toNat (hide (wr (n7 + (2 : Int)))) * (8 : Nat)) (140737488355328 : Nat))) (l184_10 N N a0 b1 m2 n7 (hide ((0 : UInt64) - inv8)) ((0 : Int)) (List.replicate (Int.toNat (hide (wr (n7 + (2 : Int))))) (0 : UInt64))))
def l184_4 (N : Nat) (n : Nat) (a0 : List UInt64) (b1 : List UInt64) (m2 : List UInt64) (n7 : Int) (inv8 : UInt64) (i9 : Int) : Option (List UInt64 × Unit) :=
  loopN (fun A x => b184_4 N (fun a0 b1 m2 n7 inv8 i9 => A ((a0, (b1, (m2, (n7, (inv8, (i9, ())))))), ())) x.1.1 x.1.2.1 x.1.2.2.1 x.1.2.2.2.1 x.1.2.2.2.2.1 x.1.2.2.2.2.2.1) n ((a0, (b1, (m2, (n7, (inv8, (i9, ())))))), ())
def p184 (N : Nat) (a0 : List UInt64) (b1 : List UInt64) (m2 : List UInt64) : Option (List UInt64 × Unit) :=
  must (ltI (0 : Int) (↑(List.length m2) : Int)) (l184_4 N N a0 b1 m2 ((↑(List.length m2) : Int)) (List.getD m2 (0 : Nat) (0 : UInt64)) ((0 : Int)))
def g184 (N : Nat) : Sg := sgK [(K.ro .u64), (K.ro .u64), (K.ro .u64)] [(K.view .u64)] fun x => p184 N x.1 x.2.1 x.2.2.1
def tab184 : List (Nat × Head) := [
    (4, ⟨⟨222, [(0, .u (.c (.ro .u64))), (1, .u (.c (.ro .u64))), (2, .u (.c (.ro .u64))), (7, .u (.c (.int))), (8, .u (.c (.u64))), (9, .u (.c (.int)))], []⟩, .exit 0⟩),
    (10, ⟨⟨222, [(0, .u (.c (.ro .u64))), (1, .u (.c (.ro .u64))), (2, .u (.c (.ro .u64))), (7, .u (.c (.int))), (8, .u (.c (.u64))), (10, .u (.c (.row 11000000))), (11, .u (.c (.int)))], [(11000000, ⟨true, 0, 42, .vec .u64⟩)]⟩, .exit 2⟩),
    (14, ⟨⟨222, [(0, .u (.c (.ro .u64))), (1, .u (.c (.ro .u64))), (2, .u (.c (.ro .u64))), (7, .u (.c (.int))), (8, .u (.c (.u64))), (10, .u (.c (.row 15000000))), (11, .u (.c (.int))), (12, .u (.c (.u64))), (13, .u (.c (.int)))], [(15000000, ⟨true, 0, 42, .vec .u64⟩)]⟩, .exit 4⟩),
    (27, ⟨⟨222, [(0, .u (.c (.ro .u64))), (1, .u (.c (.ro .u64))), (2, .u (.c (.ro .u64))), (7, .u (.c (.int))), (8, .u (.c (.u64))), (10, .u (.c (.row 28000000))), (11, .u (.c (.int))), (12, .u (.c (.u64))), (21, .u (.c (.u64))), (24, .u (.c (.int)))], [(28000000, ⟨true, 0, 42, .vec .u64⟩)]⟩, .exit 6⟩)]
def env184 (N : Nat) : List (Nat × Sg) := [(163, g163 N), (164, sg3 kAdd), (168, g168 N), (214, g214 N)]
theorem env184_ok (N : Nat) : EnvOK Try.prog pd.els (env184 N) := ⟨g163_ok N, ⟨e164_ok, ⟨g168_ok N, ⟨g214_ok N, trivial⟩⟩⟩⟩
theorem g184_ok (N : Nat) : SgOK Try.prog pd.els 184 (g184 N) :=
  sgK_ok pd_ok (env_look (env184_ok N)) Try.func184 (name_ne (by kernel_rfl)) [(K.ro .u64), (K.ro .u64), (K.ro .u64)] [(K.view .u64)] _ N tab184 4 fun x => by kernel_rfl
def p175 (N : Nat) (a0 : List UInt64) : Option (Fr × Unit) :=
  must (Nat.beq (List.length (splice [(0 : UInt64), (0 : UInt64), (0 : UInt64), (0 : UInt64)] (Int.toNat (0 : Int)) (List.take (Int.toNat ((↑(4 : Nat) : Int) - (0 : Int))) a0))) (4 : Nat)) (Option.bind (Fr.of? (splice [(0 : UInt64), (0 : UInt64), (0 : UInt64), (0 : UInt64)] (Int.toNat (0 : Int)) (List.take (Int.toNat ((↑(4 : Nat) : Int) - (0 : Int))) a0))) fun r0 => some ((r0, ())))
def g175 (N : Nat) : Sg := sgK [(K.ro .u64)] [K.fr] fun x => p175 N x.1
def tab175 : List (Nat × Head) := [
    ]
def env175 (N : Nat) : List (Nat × Sg) := []
theorem env175_ok (N : Nat) : EnvOK Try.prog pd.els (env175 N) := trivial
theorem g175_ok (N : Nat) : SgOK Try.prog pd.els 175 (g175 N) :=
  sgK_ok pd_ok (env_look (env175_ok N)) Try.func175 (name_ne (by kernel_rfl)) [(K.ro .u64)] [K.fr] _ N tab175 4 fun x => by kernel_rfl
def p94 (N : Nat) (a0 : Fr) (b1 : Fr) : Option (Fr × Unit) :=
  Option.bind (p88 N) fun r0 => Option.bind (p184 N (List.take (Int.toNat ((↑(4 : Nat) : Int) - (0 : Int))) [Fr.a0 a0, Fr.a1 a0, Fr.a2 a0, Fr.a3 a0]) (List.take (Int.toNat ((↑(4 : Nat) : Int) - (0 : Int))) [Fr.a0 b1, Fr.a1 b1, Fr.a2 b1, Fr.a3 b1]) (Prod.fst r0)) fun r1 => Option.bind (p184 N (List.take (List.length (Prod.fst r1)) (List.drop (0 : Nat) (Prod.fst r1))) ([(14526898881837571181 : UInt64), (3129137299524312099 : UInt64), (419701826671360399 : UInt64), (524908885293268753 : UInt64)]) (Prod.fst r0)) fun r2 => Option.bind (p175 N (List.take (List.length (Prod.fst r2)) (List.drop (0 : Nat) (Prod.fst r2)))) fun r3 => some (({ a0 := Fr.a0 (Prod.fst r3), a1 := Fr.a1 (Prod.fst r3), a2 := Fr.a2 (Prod.fst r3), a3 := Fr.a3 (Prod.fst r3) }, ()))
def g94 (N : Nat) : Sg := sgK [K.fr, K.fr] [K.fr] fun x => p94 N x.1 x.2.1
def tab94 : List (Nat × Head) := [
    ]
def env94 (N : Nat) : List (Nat × Sg) := [(88, g88 N), (184, g184 N), (175, g175 N)]
theorem env94_ok (N : Nat) : EnvOK Try.prog pd.els (env94 N) := ⟨g88_ok N, ⟨g184_ok N, ⟨g175_ok N, trivial⟩⟩⟩
theorem g94_ok (N : Nat) : SgOK Try.prog pd.els 94 (g94 N) :=
  sgK_ok pd_ok (env_look (env94_ok N)) Try.func94 (name_ne (by kernel_rfl)) [K.fr, K.fr] [K.fr] _ N tab94 4 fun x => by kernel_rfl
def b176_4 (N : Nat) (A_4 : (List UInt64) → (List UInt64) → (List UInt64) → UInt64 → Int → (List UInt64) → Option (List UInt64 × Unit)) (a0 : List UInt64) (b1 : List UInt64) (m2 : List UInt64) (c8 : UInt64) (i9 : Int) (t7o : List UInt64) : Option (List UInt64 × Unit) :=
  cond (hide (ltI i9 (↑(List.length m2) : Int))) (must (leI (0 : Int) i9 && ltI i9 (↑(List.length a0) : Int)) (must (leI (0 : Int) i9 && ltI i9 (↑(List.length b1) : Int)) (Option.bind (kAdd (List.getD a0 (Int.toNat i9) (0 : UInt64)) (List.getD b1 (Int.toNat i9) (0 : UInt64)) c8) fun r3 => must (leI (0 : Int) i9 && ltI i9 (↑(List.length t7o) : Int)) (A_4 a0 b1 m2 (Prod.snd r3) (hide (wr (i9 + (1 : Int)))) (setL t7o (Int.toNat i9) (Prod.fst r3)))))) (cond (hide (c8 == (1 : UInt64))) (must (ltN (0 : Nat) (List.length t7o)) (Option.bind (p214 N t7o m2) fun r2 => must (Nat.beq (List.length (Prod.fst r2)) (List.length t7o)) (some ((Prod.fst r2, ()))))) (Option.bind (p168 N t7o m2) fun r0 => cond (hide !Prod.fst r0) (must (ltN (0 : Nat) (List.length t7o)) (Option.bind (p214 N t7o m2) fun r1 => must (Nat.beq (List.length (Prod.fst r1)) (List.length t7o)) (some ((Prod.fst r1, ()))))) (some ((t7o, ())))))
def l176_4 (N : Nat) (n : Nat) (a0 : List UInt64) (b1 : List UInt64) (m2 : List UInt64) (c8 : UInt64) (i9 : Int) (t7o : List UInt64) : Option (List UInt64 × Unit) :=
  loopN (fun A x => b176_4 N (fun a0 b1 m2 c8 i9 t7o => A ((a0, (b1, (m2, ((), (c8, (i9, ())))))), (t7o, ()))) x.1.1 x.1.2.1 x.1.2.2.1 x.1.2.2.2.2.1 x.1.2.2.2.2.2.1 x.2.1) n ((a0, (b1, (m2, ((), (c8, (i9, ())))))), (t7o, ()))
def p176 (N : Nat) (a0 : List UInt64) (b1 : List UInt64) (m2 : List UInt64) : Option (List UInt64 × Unit) :=
  must (eqI (↑(List.length m2) : Int) (↑(List.length m2) : Int) && leN (Int.toNat (↑(List.length m2) : Int) * (8 : Nat)) (140737488355328 : Nat)) (l176_4 N N a0 b1 m2 ((0 : UInt64)) ((0 : Int)) (List.replicate (Int.toNat (↑(List.length m2) : Int)) (0 : UInt64)))
def g176 (N : Nat) : Sg := sgK [(K.ro .u64), (K.ro .u64), (K.ro .u64)] [(K.ro .u64)] fun x => p176 N x.1 x.2.1 x.2.2.1
def tab176 : List (Nat × Head) := [
    (4, ⟨⟨47, [(0, .u (.c (.ro .u64))), (1, .u (.c (.ro .u64))), (2, .u (.c (.ro .u64))), (7, .u (.c (.row 5000000))), (8, .u (.c (.u64))), (9, .u (.c (.int)))], [(5000000, ⟨true, 0, 42, .vec .u64⟩)]⟩, .exit 0⟩)]
def env176 (N : Nat) : List (Nat × Sg) := [(164, sg3 kAdd), (168, g168 N), (214, g214 N)]
theorem env176_ok (N : Nat) : EnvOK Try.prog pd.els (env176 N) := ⟨e164_ok, ⟨g168_ok N, ⟨g214_ok N, trivial⟩⟩⟩
theorem g176_ok (N : Nat) : SgOK Try.prog pd.els 176 (g176 N) :=
  sgK_ok pd_ok (env_look (env176_ok N)) Try.func176 (name_ne (by kernel_rfl)) [(K.ro .u64), (K.ro .u64), (K.ro .u64)] [(K.ro .u64)] _ N tab176 4 fun x => by kernel_rfl
def p81 (N : Nat) (a0 : Fr) (b1 : Fr) : Option (Fr × Unit) :=
  Option.bind (p88 N) fun r0 => Option.bind (p176 N (List.take (Int.toNat ((↑(4 : Nat) : Int) - (0 : Int))) [Fr.a0 a0, Fr.a1 a0, Fr.a2 a0, Fr.a3 a0]) (List.take (Int.toNat ((↑(4 : Nat) : Int) - (0 : Int))) [Fr.a0 b1, Fr.a1 b1, Fr.a2 b1, Fr.a3 b1]) (Prod.fst r0)) fun r1 => Option.bind (p175 N (Prod.fst r1)) fun r2 => some (({ a0 := Fr.a0 (Prod.fst r2), a1 := Fr.a1 (Prod.fst r2), a2 := Fr.a2 (Prod.fst r2), a3 := Fr.a3 (Prod.fst r2) }, ()))
def g81 (N : Nat) : Sg := sgK [K.fr, K.fr] [K.fr] fun x => p81 N x.1 x.2.1
def tab81 : List (Nat × Head) := [
    ]
def env81 (N : Nat) : List (Nat × Sg) := [(88, g88 N), (176, g176 N), (175, g175 N)]
theorem env81_ok (N : Nat) : EnvOK Try.prog pd.els (env81 N) := ⟨g88_ok N, ⟨g176_ok N, ⟨g175_ok N, trivial⟩⟩⟩
theorem g81_ok (N : Nat) : SgOK Try.prog pd.els 81 (g81 N) :=
  sgK_ok pd_ok (env_look (env81_ok N)) Try.func81 (name_ne (by kernel_rfl)) [K.fr, K.fr] [K.fr] _ N tab81 4 fun x => by kernel_rfl
def p203 (N : Nat) (l0 : List UInt64) : Option (Fr × Unit) :=
  must (Nat.beq (List.length (splice [(0 : UInt64), (0 : UInt64), (0 : UInt64), (0 : UInt64)] (Int.toNat (0 : Int)) (List.take (Int.toNat ((↑(4 : Nat) : Int) - (0 : Int))) l0))) (4 : Nat)) (Option.bind (Fr.of? (splice [(0 : UInt64), (0 : UInt64), (0 : UInt64), (0 : UInt64)] (Int.toNat (0 : Int)) (List.take (Int.toNat ((↑(4 : Nat) : Int) - (0 : Int))) l0))) fun r0 => some ((r0, ())))
def g203 (N : Nat) : Sg := sgK [(K.ro .u64)] [K.fr] fun x => p203 N x.1
def tab203 : List (Nat × Head) := [
    ]
def env203 (N : Nat) : List (Nat × Sg) := []
theorem env203_ok (N : Nat) : EnvOK Try.prog pd.els (env203 N) := trivial
theorem g203_ok (N : Nat) : SgOK Try.prog pd.els 203 (g203 N) :=
  sgK_ok pd_ok (env_look (env203_ok N)) Try.func203 (name_ne (by kernel_rfl)) [(K.ro .u64)] [K.fr] _ N tab203 4 fun x => by kernel_rfl
def p126 (N : Nat) (b0 : List UInt8) : Option (Fr × Unit) :=
  Option.bind (p59 N b0) fun r0 => Option.bind (p74 N) fun r1 => Option.bind (p52 N (Prod.fst r0) (List.take (List.length (Prod.fst r1)) (List.drop (0 : Nat) (Prod.fst r1)))) fun r2 => Option.bind (p203 N (Prod.fst r2)) fun r3 => some (({ a0 := Fr.a0 (Prod.fst r3), a1 := Fr.a1 (Prod.fst r3), a2 := Fr.a2 (Prod.fst r3), a3 := Fr.a3 (Prod.fst r3) }, ()))
def g126 (N : Nat) : Sg := sgK [(K.ro .u8)] [K.fr] fun x => p126 N x.1
def tab126 : List (Nat × Head) := [
    ]
def env126 (N : Nat) : List (Nat × Sg) := [(59, g59 N), (74, g74 N), (52, g52 N), (203, g203 N)]
theorem env126_ok (N : Nat) : EnvOK Try.prog pd.els (env126 N) := ⟨g59_ok N, ⟨g74_ok N, ⟨g52_ok N, ⟨g203_ok N, trivial⟩⟩⟩⟩
theorem g126_ok (N : Nat) : SgOK Try.prog pd.els 126 (g126 N) :=
  sgK_ok pd_ok (env_look (env126_ok N)) Try.func126 (name_ne (by kernel_rfl)) [(K.ro .u8)] [K.fr] _ N tab126 4 fun x => by kernel_rfl
def b127_3 (N : Nat) (A_3 : (List UInt8) → Int → (List UInt64) → (List UInt64) → Option (Fr × Unit)) (b0 : List UInt8) (i4 : Int) (ob0 : List UInt64) (ob1 : List UInt64) : Option (Fr × Unit) :=
  cond (hide (ltI i4 (↑(List.length b0) : Int))) (Option.bind (p173 N ((256 : UInt64))) fun r1 => Option.bind (Option.bind (Option.bind (Fr.of? ob1) fun r2 => some ((r2, { a0 := Fr.a0 (Prod.fst r1), a1 := Fr.a1 (Prod.fst r1), a2 := Fr.a2 (Prod.fst r1), a3 := Fr.a3 (Prod.fst r1) }, ()))) fun r3 => p94 N (Prod.fst r3) (Prod.fst (Prod.snd r3))) fun r4 => must (leI (0 : Int) i4 && ltI i4 (↑(List.length b0) : Int)) (Option.bind (p173 N (hide (UInt64.ofNat (UInt8.toNat (List.getD b0 (Int.toNat i4) (0 : UInt8)))))) fun r5 => Option.bind (p81 N ({ a0 := Fr.a0 (Prod.fst r4), a1 := Fr.a1 (Prod.fst r4), a2 := Fr.a2 (Prod.fst r4), a3 := Fr.a3 (Prod.fst r4) }) ({ a0 := Fr.a0 (Prod.fst r5), a1 := Fr.a1 (Prod.fst r5), a2 := Fr.a2 (Prod.fst r5), a3 := Fr.a3 (Prod.fst r5) })) fun r6 => A_3 b0 (hide (wr (i4 + (1 : Int)))) ob0 ([Fr.a0 (Prod.fst r6), Fr.a1 (Prod.fst r6), Fr.a2 (Prod.fst r6), Fr.a3 (Prod.fst r6)]))) (must (Nat.beq (List.length ob1) (4 : Nat)) (Option.bind (Fr.of? ob1) fun r0 => some ((r0, ()))))
def l127_3 (N : Nat) (n : Nat) (b0 : List UInt8) (i4 : Int) (ob0 : List UInt64) (ob1 : List UInt64) : Option (Fr × Unit) :=
  loopN (fun A x => b127_3 N (fun b0 i4 ob0 ob1 => A ((b0, ((), ((), (i4, ())))), (ob0, (ob1, ())))) x.1.1 x.1.2.2.2.1 x.2.1 x.2.2.1) n ((b0, ((), ((), (i4, ())))), (ob0, (ob1, ())))
def p127 (N : Nat) (b0 : List UInt8) : Option (Fr × Unit) :=
  l127_3 N N b0 ((0 : Int)) ([(0 : UInt64), (0 : UInt64), (0 : UInt64), (0 : UInt64)]) ([(0 : UInt64), (0 : UInt64), (0 : UInt64), (0 : UInt64)])
def g127 (N : Nat) : Sg := sgK [(K.ro .u8)] [K.fr] fun x => p127 N x.1
def tab127 : List (Nat × Head) := [
    (3, ⟨⟨22, [(0, .u (.c (.ro .u8))), (2, .u (.c (.ptr0 4000000 0))), (3, .u (.c (.ptr0 4000001 0))), (4, .u (.c (.int)))], [(4000000, ⟨false, 4, 53, .vec .u64⟩), (4000001, ⟨false, 4, 53, .vec .u64⟩)]⟩, .exit 0⟩)]
def env127 (N : Nat) : List (Nat × Sg) := [(173, g173 N), (94, g94 N), (81, g81 N)]
theorem env127_ok (N : Nat) : EnvOK Try.prog pd.els (env127 N) := ⟨g173_ok N, ⟨g94_ok N, ⟨g81_ok N, trivial⟩⟩⟩
theorem g127_ok (N : Nat) : SgOK Try.prog pd.els 127 (g127 N) :=
  sgK_ok pd_ok (env_look (env127_ok N)) Try.func127 (name_ne (by kernel_rfl)) [(K.ro .u8)] [K.fr] _ N tab127 4 fun x => by kernel_rfl
end Go.Proofs.Ytgimohchocjgcaa.V
