import Derived.Test.YtgimohchocjgcaaVTM
import Derived.KernelRfl
set_option linter.unusedVariables false
set_option linter.unusedSimpArgs false
namespace Go.Proofs.Ytgimohchocjgcaa.V
def p75 (N : Nat) (n0 : UInt64) : Option (Fr × Unit) :=
  some (({ a0 := n0, a1 := (0 : UInt64), a2 := (0 : UInt64), a3 := (0 : UInt64) }, ()))
def g75 (N : Nat) : Sg := sgK [K.u64] [K.fr] fun x => p75 N x.1
def tab75 : List (Nat × Head) := [
    ]
def env75 (N : Nat) : List (Nat × Sg) := []
theorem env75_ok (N : Nat) : EnvOK Try.prog pd.els (env75 N) := trivial
theorem g75_ok (N : Nat) : SgOK Try.prog pd.els 75 (g75 N) :=
  sgK_ok pd_ok (env_look (env75_ok N)) Try.func75 (name_ne (by kernel_rfl)) [K.u64] [K.fr] _ N tab75 4 fun x => by kernel_rfl
def p169 (N : Nat) : Option (Fr × Unit) :=
  some (({ a0 := (18446744069414584321 : UInt64), a1 := (6034159408538082302 : UInt64), a2 := (3691218898639771653 : UInt64), a3 := (8353516859464449352 : UInt64) }, ()))
def g169 (N : Nat) : Sg := sgK [] [K.fr] fun x => p169 N
def tab169 : List (Nat × Head) := [
    ]
def env169 (N : Nat) : List (Nat × Sg) := []
theorem env169_ok (N : Nat) : EnvOK Try.prog pd.els (env169 N) := trivial
theorem g169_ok (N : Nat) : SgOK Try.prog pd.els 169 (g169 N) :=
  sgK_ok pd_ok (env_look (env169_ok N)) Try.func169 (name_ne (by kernel_rfl)) [] [K.fr] _ N tab169 4 fun x => by kernel_rfl
def p213 (N : Nat) : Option (Fr × Unit) :=
  some (({ a0 := (14526898881837571181 : UInt64), a1 := (3129137299524312099 : UInt64), a2 := (419701826671360399 : UInt64), a3 := (524908885293268753 : UInt64) }, ()))
def g213 (N : Nat) : Sg := sgK [] [K.fr] fun x => p213 N
def tab213 : List (Nat × Head) := [
    ]
def env213 (N : Nat) : List (Nat × Sg) := []
theorem env213_ok (N : Nat) : EnvOK Try.prog pd.els (env213 N) := trivial
theorem g213_ok (N : Nat) : SgOK Try.prog pd.els 213 (g213 N) :=
  sgK_ok pd_ok (env_look (env213_ok N)) Try.func213 (name_ne (by kernel_rfl)) [] [K.fr] _ N tab213 4 fun x => by kernel_rfl
def b174_5 (N : Nat) (A_5 : UInt64 → UInt64 → Int → (List UInt64) → (List UInt64) → (List UInt64) → (List UInt64) → Option (Fr × Unit)) (over1 : UInt64) (borrow7 : UInt64) (t10 : Int) (ob0 : List UInt64) (ob1 : List UInt64) (ob2 : List UInt64) (ob3 : List UInt64) : Option (Fr × Unit) :=
  cond (hide (ltI t10 (4 : Int))) (must (leI (0 : Int) t10 && ltI t10 (↑(4 : Nat) : Int)) (must (leI (0 : Int) t10 && ltI t10 (↑(4 : Nat) : Int)) (Option.bind (kSub (List.getD ob0 (Int.toNat t10) (0 : UInt64)) (List.getD ob2 (Int.toNat t10) (0 : UInt64)) borrow7) fun r2 => must (leI (0 : Int) t10 && ltI t10 (↑(4 : Nat) : Int)) (A_5 over1 (Prod.snd r2) (hide (wr (t10 + (1 : Int)))) ob0 ob1 ob2 (setL ob3 (Int.toNat t10) (Prod.fst r2)))))) (cond (hide (ltN (UInt64.toNat over1) (UInt64.toNat borrow7))) (must (Nat.beq (List.length ob0) (4 : Nat)) (Option.bind (Fr.of? ob0) fun r1 => some ((r1, ())))) (must (Nat.beq (List.length ob3) (4 : Nat)) (Option.bind (Fr.of? ob3) fun r0 => some ((r0, ())))))
def l174_5 (N : Nat) (n : Nat) (over1 : UInt64) (borrow7 : UInt64) (t10 : Int) (ob0 : List UInt64) (ob1 : List UInt64) (ob2 : List UInt64) (ob3 : List UInt64) : Option (Fr × Unit) :=
  loopN (fun A x => b174_5 N (fun over1 borrow7 t10 ob0 ob1 ob2 ob3 => A ((over1, ((), ((), ((), ((), (borrow7, (t10, ()))))))), (ob0, (ob1, (ob2, (ob3, ())))))) x.1.1 x.1.2.2.2.2.2.1 x.1.2.2.2.2.2.2.1 x.2.1 x.2.2.1 x.2.2.2.1 x.2.2.2.2.1) n ((over1, ((), ((), ((), ((), (borrow7, (t10, ()))))))), (ob0, (ob1, (ob2, (ob3, ())))))
def p174 (N : Nat) (a0 : Fr) (over1 : UInt64) : Option (Fr × Unit) :=
  Option.bind (p169 N) fun r0 => l174_5 N N over1 ((0 : UInt64)) ((0 : Int)) ([Fr.a0 a0, Fr.a1 a0, Fr.a2 a0, Fr.a3 a0]) ([(0 : UInt64), (0 : UInt64), (0 : UInt64), (0 : UInt64)]) ([Fr.a0 (Prod.fst r0), Fr.a1 (Prod.fst r0), Fr.a2 (Prod.fst r0), Fr.a3 (Prod.fst r0)]) ([(0 : UInt64), (0 : UInt64), (0 : UInt64), (0 : UInt64)])
def g174 (N : Nat) : Sg := sgK [K.fr, K.u64] [K.fr] fun x => p174 N x.1 x.2.1
def tab174 : List (Nat × Head) := [
    (5, ⟨⟨32, [(1, .u (.c (.u64))), (2, .u (.c (.ptr0 6000000 0))), (4, .u (.c (.ptr0 6000001 0))), (5, .u (.c (.ptr0 6000002 0))), (6, .u (.c (.ptr0 6000003 0))), (7, .u (.c (.u64))), (10, .u (.c (.int)))], [(6000000, ⟨false, 4, 53, .vec .u64⟩), (6000001, ⟨false, 4, 53, .vec .u64⟩), (6000002, ⟨false, 4, 53, .vec .u64⟩), (6000003, ⟨false, 4, 53, .vec .u64⟩)]⟩, .exit 0⟩)]
def env174 (N : Nat) : List (Nat × Sg) := [(169, g169 N), (159, sg3 kSub)]
theorem env174_ok (N : Nat) : EnvOK Try.prog pd.els (env174 N) := ⟨g169_ok N, ⟨e159_ok, trivial⟩⟩
theorem g174_ok (N : Nat) : SgOK Try.prog pd.els 174 (g174 N) :=
  sgK_ok pd_ok (env_look (env174_ok N)) Try.func174 (name_ne (by kernel_rfl)) [K.fr, K.u64] [K.fr] _ N tab174 4 fun x => by kernel_rfl
def b172_22 (N : Nat) (A_4 : Int → (List UInt64) → (List UInt64) → (List UInt64) → (List UInt64) → (List UInt64) → Option (Fr × Unit)) (A_22 : UInt64 → UInt64 → UInt64 → UInt64 → Int → Int → (List UInt64) → (List UInt64) → (List UInt64) → (List UInt64) → (List UInt64) → Option (Fr × Unit)) (c8 : UInt64) (top13 : UInt64) (more14 : UInt64) (x15 : UInt64) (j16 : Int) (t18 : Int) (ob0 : List UInt64) (ob1 : List UInt64) (ob2 : List UInt64) (ob3 : List UInt64) (ob4 : List UInt64) : Option (Fr × Unit) :=
  cond (hide (ltI j16 (4 : Int))) (must (leI (0 : Int) j16 && ltI j16 (↑(4 : Nat) : Int)) (Option.bind (p163 N x15 (List.getD ob3 (Int.toNat j16) (0 : UInt64))) fun r1 => must (leI (0 : Int) j16 && ltI j16 (↑(5 : Nat) : Int)) (Option.bind (kAdd (Prod.fst (Prod.snd r1)) (List.getD ob4 (Int.toNat j16) (0 : UInt64)) ((0 : UInt64))) fun r2 => Option.bind (kAdd (Prod.fst r2) c8 ((0 : UInt64))) fun r3 => must (leI (0 : Int) (hide (wr (j16 - (1 : Int)))) && ltI (hide (wr (j16 - (1 : Int)))) (↑(5 : Nat) : Int)) (A_22 (hide (hide (Prod.fst r1 + Prod.snd r2) + Prod.snd r3)) top13 more14 x15 (hide (wr (j16 + (1 : Int)))) t18 ob0 ob1 ob2 ob3 (setL ob4 (Int.toNat (hide (wr (j16 - (1 : Int))))) (Prod.fst r3)))))) (Option.bind (kAdd top13 c8 ((0 : UInt64))) fun r0 => A_4 (hide (wr (t18 + (1 : Int)))) ob0 ob1 ob2 ob3 (setL (setL ob4 (3 : Nat) (Prod.fst r0)) (4 : Nat) (hide (more14 + Prod.snd r0))))
def l172_22 (N : Nat) (A_4 : Int → (List UInt64) → (List UInt64) → (List UInt64) → (List UInt64) → (List UInt64) → Option (Fr × Unit)) (n : Nat) (c8 : UInt64) (top13 : UInt64) (more14 : UInt64) (x15 : UInt64) (j16 : Int) (t18 : Int) (ob0 : List UInt64) (ob1 : List UInt64) (ob2 : List UInt64) (ob3 : List UInt64) (ob4 : List UInt64) : Option (Fr × Unit) :=
  loopN (fun A x => b172_22 N A_4 (fun c8 top13 more14 x15 j16 t18 ob0 ob1 ob2 ob3 ob4 => A (((), ((), ((), ((), ((), (c8, (top13, (more14, (x15, (j16, (t18, ()))))))))))), (ob0, (ob1, (ob2, (ob3, (ob4, ()))))))) x.1.2.2.2.2.2.1 x.1.2.2.2.2.2.2.1 x.1.2.2.2.2.2.2.2.1 x.1.2.2.2.2.2.2.2.2.1 x.1.2.2.2.2.2.2.2.2.2.1 x.1.2.2.2.2.2.2.2.2.2.2.1 x.2.1 x.2.2.1 x.2.2.2.1 x.2.2.2.2.1 x.2.2.2.2.2.1) n (((), ((), ((), ((), ((), (c8, (top13, (more14, (x15, (j16, (t18, ()))))))))))), (ob0, (ob1, (ob2, (ob3, (ob4, ()))))))
def b172_8 (N : Nat) (A_4 : Int → (List UInt64) → (List UInt64) → (List UInt64) → (List UInt64) → (List UInt64) → Option (Fr × Unit)) (A_8 : Int → UInt64 → Int → Int → (List UInt64) → (List UInt64) → (List UInt64) → (List UInt64) → (List UInt64) → Option (Fr × Unit)) (i7 : Int) (c8 : UInt64) (t18 : Int) (t21 : Int) (ob0 : List UInt64) (ob1 : List UInt64) (ob2 : List UInt64) (ob3 : List UInt64) (ob4 : List UInt64) : Option (Fr × Unit) :=
  cond (hide (ltI t21 (4 : Int))) (must (leI (0 : Int) t21 && ltI t21 (↑(4 : Nat) : Int)) (must (leI (0 : Int) i7 && ltI i7 (↑(4 : Nat) : Int)) (Option.bind (p163 N (List.getD ob0 (Int.toNat t21) (0 : UInt64)) (List.getD ob1 (Int.toNat i7) (0 : UInt64))) fun r3 => must (leI (0 : Int) t21 && ltI t21 (↑(5 : Nat) : Int)) (Option.bind (kAdd (Prod.fst (Prod.snd r3)) (List.getD ob4 (Int.toNat t21) (0 : UInt64)) ((0 : UInt64))) fun r4 => Option.bind (kAdd (Prod.fst r4) c8 ((0 : UInt64))) fun r5 => must (leI (0 : Int) t21 && ltI t21 (↑(5 : Nat) : Int)) (A_8 i7 (hide (hide (Prod.fst r3 + Prod.snd r4) + Prod.snd r5)) t18 (hide (wr (t21 + (1 : Int)))) ob0 ob1 ob2 ob3 (setL ob4 (Int.toNat t21) (Prod.fst r5))))))) (Option.bind (kAdd (List.getD ob4 (4 : Nat) (0 : UInt64)) c8 ((0 : UInt64))) fun r0 => Option.bind (p163 N (hide (List.getD ob4 (0 : Nat) (0 : UInt64) * (18446744069414584319 : UInt64))) (List.getD ob3 (0 : Nat) (0 : UInt64))) fun r1 => Option.bind (kAdd (Prod.fst (Prod.snd r1)) (List.getD ob4 (0 : Nat) (0 : UInt64)) ((0 : UInt64))) fun r2 => l172_22 N A_4 N (hide (Prod.fst r1 + Prod.snd r2)) (Prod.fst r0) (Prod.snd r0) (hide (List.getD ob4 (0 : Nat) (0 : UInt64) * (18446744069414584319 : UInt64))) ((1 : Int)) t18 ob0 ob1 ob2 ob3 ob4)
def l172_8 (N : Nat) (A_4 : Int → (List UInt64) → (List UInt64) → (List UInt64) → (List UInt64) → (List UInt64) → Option (Fr × Unit)) (n : Nat) (i7 : Int) (c8 : UInt64) (t18 : Int) (t21 : Int) (ob0 : List UInt64) (ob1 : List UInt64) (ob2 : List UInt64) (ob3 : List UInt64) (ob4 : List UInt64) : Option (Fr × Unit) :=
  loopN (fun A x => b172_8 N A_4 (fun i7 c8 t18 t21 ob0 ob1 ob2 ob3 ob4 => A (((), ((), ((), ((), ((), (i7, (c8, (t18, (t21, ()))))))))), (ob0, (ob1, (ob2, (ob3, (ob4, ()))))))) x.1.2.2.2.2.2.1 x.1.2.2.2.2.2.2.1 x.1.2.2.2.2.2.2.2.1 x.1.2.2.2.2.2.2.2.2.1 x.2.1 x.2.2.1 x.2.2.2.1 x.2.2.2.2.1 x.2.2.2.2.2.1) n (((), ((), ((), ((), ((), (i7, (c8, (t18, (t21, ()))))))))), (ob0, (ob1, (ob2, (ob3, (ob4, ()))))))
def b172_4 (N : Nat) (A_4 : Int → (List UInt64) → (List UInt64) → (List UInt64) → (List UInt64) → (List UInt64) → Option (Fr × Unit)) (t18 : Int) (ob0 : List UInt64) (ob1 : List UInt64) (ob2 : List UInt64) (ob3 : List UInt64) (ob4 : List UInt64) : Option (Fr × Unit) :=
  cond (hide (ltI t18 (4 : Int))) (l172_8 N A_4 N t18 ((0 : UInt64)) t18 ((0 : Int)) ob0 ob1 ob2 ob3 ob4) (must (leN (Int.toNat (0 : Int) + (4 : Nat)) (List.length ob4)) (Option.bind (Option.bind (Option.bind (Fr.of? (List.take (4 : Nat) ob4)) fun r0 => some ((r0, List.getD ob4 (4 : Nat) (0 : UInt64), ()))) fun r1 => p174 N (Prod.fst r1) (Prod.fst (Prod.snd r1))) fun r2 => some (({ a0 := Fr.a0 (Prod.fst r2), a1 := Fr.a1 (Prod.fst r2), a2 := Fr.a2 (Prod.fst r2), a3 := Fr.a3 (Prod.fst r2) }, ()))))
def l172_4 (N : Nat) (n : Nat) (t18 : Int) (ob0 : List UInt64) (ob1 : List UInt64) (ob2 : List UInt64) (ob3 : List UInt64) (ob4 : List UInt64) : Option (Fr × Unit) :=
  loopN (fun A x => b172_4 N (fun t18 ob0 ob1 ob2 ob3 ob4 => A (((), ((), ((), ((), ((), (t18, ())))))), (ob0, (ob1, (ob2, (ob3, (ob4, ()))))))) x.1.2.2.2.2.2.1 x.2.1 x.2.2.1 x.2.2.2.1 x.2.2.2.2.1 x.2.2.2.2.2.1) n (((), ((), ((), ((), ((), (t18, ())))))), (ob0, (ob1, (ob2, (ob3, (ob4, ()))))))
def p172 (N : Nat) (a0 : Fr) (b1 : Fr) : Option (Fr × Unit) :=
  Option.bind (p169 N) fun r0 => l172_4 N N ((0 : Int)) ([Fr.a0 a0, Fr.a1 a0, Fr.a2 a0, Fr.a3 a0]) ([Fr.a0 b1, Fr.a1 b1, Fr.a2 b1, Fr.a3 b1]) ([(0 : UInt64), (0 : UInt64), (0 : UInt64), (0 : UInt64)]) ([Fr.a0 (Prod.fst r0), Fr.a1 (Prod.fst r0), Fr.a2 (Prod.fst r0), Fr.a3 (Prod.fst r0)]) ([(0 : UInt64), (0 : UInt64), (0 : UInt64), (0 : UInt64), (0 : UInt64)])
def g172 (N : Nat) : Sg := sgK [K.fr, K.fr] [K.fr] fun x => p172 N x.1 x.2.1
def tab172 : List (Nat × Head) := [
    (4, ⟨⟨139, [(2, .u (.c (.ptr0 5000000 0))), (3, .u (.c (.ptr0 5000001 0))), (4, .u (.c (.ptr0 5000002 0))), (5, .u (.c (.ptr0 5000003 0))), (6, .u (.c (.ptr0 5000004 0))), (18, .u (.c (.int)))], [(5000000, ⟨false, 4, 53, .vec .u64⟩), (5000001, ⟨false, 4, 53, .vec .u64⟩), (5000002, ⟨false, 4, 53, .vec .u64⟩), (5000003, ⟨false, 4, 53, .vec .u64⟩), (5000004, ⟨false, 5, 206, .vec .u64⟩)]⟩, .exit 0⟩),
    (8, ⟨⟨139, [(2, .u (.c (.ptr0 9000000 0))), (3, .u (.c (.ptr0 9000001 0))), (4, .u (.c (.ptr0 9000002 0))), (5, .u (.c (.ptr0 9000003 0))), (6, .u (.c (.ptr0 9000004 0))), (7, .u (.c (.int))), (8, .u (.c (.u64))), (18, .u (.c (.int))), (21, .u (.c (.int)))], [(9000000, ⟨false, 4, 53, .vec .u64⟩), (9000001, ⟨false, 4, 53, .vec .u64⟩), (9000002, ⟨false, 4, 53, .vec .u64⟩), (9000003, ⟨false, 4, 53, .vec .u64⟩), (9000004, ⟨false, 5, 206, .vec .u64⟩)]⟩, .exit 2⟩),
    (22, ⟨⟨139, [(2, .u (.c (.ptr0 23000000 0))), (3, .u (.c (.ptr0 23000001 0))), (4, .u (.c (.ptr0 23000002 0))), (5, .u (.c (.ptr0 23000003 0))), (6, .u (.c (.ptr0 23000004 0))), (8, .u (.c (.u64))), (13, .u (.c (.u64))), (14, .u (.c (.u64))), (15, .u (.c (.u64))), (16, .u (.c (.int))), (18, .u (.c (.int)))], [(23000000, ⟨false, 4, 53, .vec .u64⟩), (23000001, ⟨false, 4, 53, .vec .u64⟩), (23000002, ⟨false, 4, 53, .vec .u64⟩), (23000003, ⟨false, 4, 53, .vec .u64⟩), (23000004, ⟨false, 5, 206, .vec .u64⟩)]⟩, .exit 4⟩)]
def env172 (N : Nat) : List (Nat × Sg) := [(169, g169 N), (163, g163 N), (164, sg3 kAdd), (174, g174 N)]
theorem env172_ok (N : Nat) : EnvOK Try.prog pd.els (env172 N) := ⟨g169_ok N, ⟨g163_ok N, ⟨e164_ok, ⟨g174_ok N, trivial⟩⟩⟩⟩
theorem g172_ok (N : Nat) : SgOK Try.prog pd.els 172 (g172 N) :=
  sgK_ok pd_ok (env_look (env172_ok N)) Try.func172 (name_ne (by kernel_rfl)) [K.fr, K.fr] [K.fr] _ N tab172 4 fun x => by kernel_rfl
def p170 (N : Nat) (a0 : Fr) : Option (Fr × Unit) :=
  Option.bind (p213 N) fun r0 => Option.bind (p172 N ({ a0 := Fr.a0 a0, a1 := Fr.a1 a0, a2 := Fr.a2 a0, a3 := Fr.a3 a0 }) ({ a0 := Fr.a0 (Prod.fst r0), a1 := Fr.a1 (Prod.fst r0), a2 := Fr.a2 (Prod.fst r0), a3 := Fr.a3 (Prod.fst r0) })) fun r1 => some (({ a0 := Fr.a0 (Prod.fst r1), a1 := Fr.a1 (Prod.fst r1), a2 := Fr.a2 (Prod.fst r1), a3 := Fr.a3 (Prod.fst r1) }, ()))
def g170 (N : Nat) : Sg := sgK [K.fr] [K.fr] fun x => p170 N x.1
def tab170 : List (Nat × Head) := [
    ]
def env170 (N : Nat) : List (Nat × Sg) := [(213, g213 N), (172, g172 N)]
theorem env170_ok (N : Nat) : EnvOK Try.prog pd.els (env170 N) := ⟨g213_ok N, ⟨g172_ok N, trivial⟩⟩
theorem g170_ok (N : Nat) : SgOK Try.prog pd.els 170 (g170 N) :=
  sgK_ok pd_ok (env_look (env170_ok N)) Try.func170 (name_ne (by kernel_rfl)) [K.fr] [K.fr] _ N tab170 4 fun x => by kernel_rfl
def p171 (N : Nat) (a0 : Fr) : Option (Fr × Unit) :=
  Option.bind (p172 N ({ a0 := Fr.a0 a0, a1 := Fr.a1 a0, a2 := Fr.a2 a0, a3 := Fr.a3 a0 }) ({ a0 := (1 : UInt64), a1 := (0 : UInt64), a2 := (0 : UInt64), a3 := (0 : UInt64) })) fun r0 => some (({ a0 := Fr.a0 (Prod.fst r0), a1 := Fr.a1 (Prod.fst r0), a2 := Fr.a2 (Prod.fst r0), a3 := Fr.a3 (Prod.fst r0) }, ()))
def g171 (N : Nat) : Sg := sgK [K.fr] [K.fr] fun x => p171 N x.1
def tab171 : List (Nat × Head) := [
    ]
def env171 (N : Nat) : List (Nat × Sg) := [(172, g172 N)]
theorem env171_ok (N : Nat) : EnvOK Try.prog pd.els (env171 N) := ⟨g172_ok N, trivial⟩
theorem g171_ok (N : Nat) : SgOK Try.prog pd.els 171 (g171 N) :=
  sgK_ok pd_ok (env_look (env171_ok N)) Try.func171 (name_ne (by kernel_rfl)) [K.fr] [K.fr] _ N tab171 4 fun x => by kernel_rfl
def b72_1000 (N : Nat) (A_1000 : (List UInt64) → Int → (List UInt64) → (List UInt64) → (List UInt64) → Option (Fr × Unit)) (e1 : List UInt64) (i7 : Int) (ob0 : List UInt64) (ob1 : List UInt64) (ob2 : List UInt64) : Option (Fr × Unit) :=
  cond (hide (ltI (hide (wr (i7 - (1 : Int)))) (0 : Int))) (Option.bind (Option.bind (Option.bind (Fr.of? ob2) fun r9 => some ((r9, ()))) fun r10 => p171 N (Prod.fst r10)) fun r11 => some (({ a0 := Fr.a0 (Prod.fst r11), a1 := Fr.a1 (Prod.fst r11), a2 := Fr.a2 (Prod.fst r11), a3 := Fr.a3 (Prod.fst r11) }, ()))) (Option.bind (Option.bind (Option.bind (Fr.of? ob2) fun r0 => Option.bind (Option.bind (Fr.of? ob2) fun r1 => some ((r1, ()))) fun r2 => some ((r0, r2))) fun r3 => p172 N (Prod.fst r3) (Prod.fst (Prod.snd r3))) fun r4 => must (leI (0 : Int) (hide (wr (Int.tdiv (hide (wr (i7 - (1 : Int)))) (64 : Int)))) && ltI (hide (wr (Int.tdiv (hide (wr (i7 - (1 : Int)))) (64 : Int)))) (↑(List.length e1) : Int)) (cond (hide (hide (hide (shr64 (List.getD e1 (Int.toNat (hide (wr (Int.tdiv (hide (wr (i7 - (1 : Int)))) (64 : Int))))) (0 : UInt64)) (UInt64.toNat (hide (u64I (hide (Int.tmod (hide (wr (i7 - (1 : Int)))) (64 : Int))))))) &&& (1 : UInt64)) == (1 : UInt64))) (Option.bind (Option.bind (Option.bind (Option.bind (Fr.of? ob1) fun r5 => some ((r5, ()))) fun r6 => some (({ a0 := Fr.a0 (Prod.fst r4), a1 := Fr.a1 (Prod.fst r4), a2 := Fr.a2 (Prod.fst r4), a3 := Fr.a3 (Prod.fst r4) }, r6))) fun r7 => p172 N (Prod.fst r7) (Prod.fst (Prod.snd r7))) fun r8 => A_1000 e1 (hide (wr (i7 - (1 : Int)))) ob0 ob1 ([Fr.a0 (Prod.fst r8), Fr.a1 (Prod.fst r8), Fr.a2 (Prod.fst r8), Fr.a3 (Prod.fst r8)])) (A_1000 e1 (hide (wr (i7 - (1 : Int)))) ob0 ob1 ([Fr.a0 (Prod.fst r4), Fr.a1 (Prod.fst r4), Fr.a2 (Prod.fst r4), Fr.a3 (Prod.fst r4)]))))
def l72_1000 (N : Nat) (n : Nat) (e1 : List UInt64) (i7 : Int) (ob0 : List UInt64) (ob1 : List UInt64) (ob2 : List UInt64) : Option (Fr × Unit) :=
  loopN (fun A x => b72_1000 N (fun e1 i7 ob0 ob1 ob2 => A ((e1, ((), ((), ((), (i7, ()))))), (ob0, (ob1, (ob2, ()))))) x.1.1 x.1.2.2.2.2.1 x.2.1 x.2.2.1 x.2.2.2.1) n ((e1, ((), ((), ((), (i7, ()))))), (ob0, (ob1, (ob2, ()))))
def p72 (N : Nat) (a0 : Fr) (e1 : List UInt64) : Option (Fr × Unit) :=
  Option.bind (p170 N ({ a0 := Fr.a0 a0, a1 := Fr.a1 a0, a2 := Fr.a2 a0, a3 := Fr.a3 a0 })) fun r0 => Option.bind (p170 N ({ a0 := (1 : UInt64), a1 := (0 : UInt64), a2 := (0 : UInt64), a3 := (0 : UInt64) })) fun r1 => l72_1000 N N e1 (hide (wr ((64 : Int) * (↑(List.length e1) : Int)))) ([(0 : UInt64), (0 : UInt64), (0 : UInt64), (0 : UInt64)]) ([Fr.a0 (Prod.fst r0), Fr.a1 (Prod.fst r0), Fr.a2 (Prod.fst r0), Fr.a3 (Prod.fst r0)]) ([Fr.a0 (Prod.fst r1), Fr.a1 (Prod.fst r1), Fr.a2 (Prod.fst r1), Fr.a3 (Prod.fst r1)])
def g72 (N : Nat) : Sg := sgK [K.fr, (K.ro .u64)] [K.fr] fun x => p72 N x.1 x.2.1
def tab72 : List (Nat × Head) := [
    (1000, ⟨⟨38, [(1, .u (.c (.ro .u64))), (4, .u (.c (.ptr0 1001000000 0))), (5, .u (.c (.ptr0 1001000001 0))), (6, .u (.c (.ptr0 1001000002 0))), (7, .u (.c (.int)))], [(1001000000, ⟨false, 4, 53, .vec .u64⟩), (1001000001, ⟨false, 4, 53, .vec .u64⟩), (1001000002, ⟨false, 4, 53, .vec .u64⟩)]⟩, .fall⟩)]
def env72 (N : Nat) : List (Nat × Sg) := [(170, g170 N), (171, g171 N), (172, g172 N)]
theorem env72_ok (N : Nat) : EnvOK Try.prog pd.els (env72 N) := ⟨g170_ok N, ⟨g171_ok N, ⟨g172_ok N, trivial⟩⟩⟩
theorem g72_ok (N : Nat) : SgOK Try.prog pd.els 72 (g72 N) :=
  sgK_ok pd_ok (env_look (env72_ok N)) Try.func72 (name_ne (by kernel_rfl)) [K.fr, (K.ro .u64)] [K.fr] _ N tab72 4 fun x => by kernel_rfl
def p70 (N : Nat) (a0 : Fr) : Option (Fr × Int × Unit) :=
  cond (hide (eqL El.u64 [Fr.a0 a0, Fr.a1 a0, Fr.a2 a0, Fr.a3 a0] [(0 : UInt64), (0 : UInt64), (0 : UInt64), (0 : UInt64)])) (some (({ a0 := Fr.a0 a0, a1 := Fr.a1 a0, a2 := Fr.a2 a0, a3 := Fr.a3 a0 }, (7 : Int), ()))) (Option.bind (p169 N) fun r0 => Option.bind (p72 N ({ a0 := Fr.a0 a0, a1 := Fr.a1 a0, a2 := Fr.a2 a0, a3 := Fr.a3 a0 }) (List.take (Int.toNat ((↑(4 : Nat) : Int) - (0 : Int))) (setL [Fr.a0 (Prod.fst r0), Fr.a1 (Prod.fst r0), Fr.a2 (Prod.fst r0), Fr.a3 (Prod.fst r0)] (0 : Nat) (hide (Fr.a0 (Prod.fst r0) - (2 : UInt64)))))) fun r1 => some (({ a0 := Fr.a0 (Prod.fst r1), a1 := Fr.a1 (Prod.fst r1), a2 := Fr.a2 (Prod.fst r1), a3 := Fr.a3 (Prod.fst r1) }, (0 : Int), ())))
def g70 (N : Nat) : Sg := sgK [K.fr] [K.fr, K.int] fun x => p70 N x.1
def tab70 : List (Nat × Head) := [
    ]
def env70 (N : Nat) : List (Nat × Sg) := [(169, g169 N), (72, g72 N)]
theorem env70_ok (N : Nat) : EnvOK Try.prog pd.els (env70 N) := ⟨g169_ok N, ⟨g72_ok N, trivial⟩⟩
theorem g70_ok (N : Nat) : SgOK Try.prog pd.els 70 (g70 N) :=
  sgK_ok pd_ok (env_look (env70_ok N)) Try.func70 (name_ne (by kernel_rfl)) [K.fr] [K.fr, K.int] _ N tab70 4 fun x => by kernel_rfl
def b77_9 (N : Nat) (A_6 : Int → Int → (List UInt64) → (List UInt64) → Option (Fr × Int × Unit)) (A_9 : UInt64 → Int → Int → Int → (List UInt64) → (List UInt64) → Option (Fr × Int × Unit)) (over5 : UInt64) (i6 : Int) (t19 : Int) (t20 : Int) (ob0 : List UInt64) (ob1 : List UInt64) : Option (Fr × Int × Unit) :=
  cond (hide (leI (0 : Int) i6)) (must (leI (0 : Int) i6 && ltI i6 (↑(4 : Nat) : Int)) (must (leI (0 : Int) i6 && ltI i6 (↑(4 : Nat) : Int)) (must (leI (0 : Int) i6 && ltI i6 (↑(4 : Nat) : Int)) (A_9 (hide (shl64 (List.getD ob1 (Int.toNat i6) (0 : UInt64)) (UInt64.toNat (63 : UInt64)))) (hide (wr (i6 - (1 : Int)))) t19 t20 ob0 (setL ob1 (Int.toNat i6) (hide (hide (shr64 (List.getD ob1 (Int.toNat i6) (0 : UInt64)) (UInt64.toNat (1 : UInt64))) ||| over5))))))) (A_6 t19 (hide (wr (t20 + (1 : Int)))) ob0 ob1)
def l77_9 (N : Nat) (A_6 : Int → Int → (List UInt64) → (List UInt64) → Option (Fr × Int × Unit)) (n : Nat) (over5 : UInt64) (i6 : Int) (t19 : Int) (t20 : Int) (ob0 : List UInt64) (ob1 : List UInt64) : Option (Fr × Int × Unit) :=
  loopN (fun A x => b77_9 N A_6 (fun over5 i6 t19 t20 ob0 ob1 => A (((), ((), (over5, (i6, (t19, (t20, ())))))), (ob0, (ob1, ())))) x.1.2.2.1 x.1.2.2.2.1 x.1.2.2.2.2.1 x.1.2.2.2.2.2.1 x.2.1 x.2.2.1) n (((), ((), (over5, (i6, (t19, (t20, ())))))), (ob0, (ob1, ())))
def b77_6 (N : Nat) (A_6 : Int → Int → (List UInt64) → (List UInt64) → Option (Fr × Int × Unit)) (t19 : Int) (t20 : Int) (ob0 : List UInt64) (ob1 : List UInt64) : Option (Fr × Int × Unit) :=
  cond (hide (ltI t20 t19)) (l77_9 N A_6 N ((0 : UInt64)) ((3 : Int)) t19 t20 ob0 ob1) (Option.bind (p75 N ((7 : UInt64))) fun r0 => Option.bind (p72 N ({ a0 := Fr.a0 (Prod.fst r0), a1 := Fr.a1 (Prod.fst r0), a2 := Fr.a2 (Prod.fst r0), a3 := Fr.a3 (Prod.fst r0) }) (List.take (Int.toNat ((↑(4 : Nat) : Int) - (0 : Int))) ob1)) fun r1 => some (({ a0 := Fr.a0 (Prod.fst r1), a1 := Fr.a1 (Prod.fst r1), a2 := Fr.a2 (Prod.fst r1), a3 := Fr.a3 (Prod.fst r1) }, (0 : Int), ())))
def l77_6 (N : Nat) (n : Nat) (t19 : Int) (t20 : Int) (ob0 : List UInt64) (ob1 : List UInt64) : Option (Fr × Int × Unit) :=
  loopN (fun A x => b77_6 N (fun t19 t20 ob0 ob1 => A (((), ((), (t19, (t20, ())))), (ob0, (ob1, ())))) x.1.2.2.1 x.1.2.2.2.1 x.2.1 x.2.2.1) n (((), ((), (t19, (t20, ())))), (ob0, (ob1, ())))
def p77 (N : Nat) (log0 : Int) : Option (Fr × Int × Unit) :=
  cond (hide (ltI log0 (0 : Int))) (some (({ a0 := (0 : UInt64), a1 := (0 : UInt64), a2 := (0 : UInt64), a3 := (0 : UInt64) }, (1 : Int), ()))) (cond (hide (ltI (32 : Int) log0)) (some (({ a0 := (0 : UInt64), a1 := (0 : UInt64), a2 := (0 : UInt64), a3 := (0 : UInt64) }, (1 : Int), ()))) (Option.bind (p169 N) fun r0 => l77_6 N N log0 ((0 : Int)) ([(0 : UInt64), (0 : UInt64), (0 : UInt64), (0 : UInt64)]) (setL [Fr.a0 (Prod.fst r0), Fr.a1 (Prod.fst r0), Fr.a2 (Prod.fst r0), Fr.a3 (Prod.fst r0)] (0 : Nat) (hide (Fr.a0 (Prod.fst r0) - (1 : UInt64))))))
def g77 (N : Nat) : Sg := sgK [K.int] [K.fr, K.int] fun x => p77 N x.1
def tab77 : List (Nat × Head) := [
    (6, ⟨⟨42, [(2, .u (.c (.ptr0 7000000 0))), (4, .u (.c (.ptr0 7000001 0))), (19, .u (.c (.int))), (20, .u (.c (.int)))], [(7000000, ⟨false, 4, 53, .vec .u64⟩), (7000001, ⟨false, 4, 53, .vec .u64⟩)]⟩, .exit 0⟩),
    (9, ⟨⟨42, [(2, .u (.c (.ptr0 10000000 0))), (4, .u (.c (.ptr0 10000001 0))), (5, .u (.c (.u64))), (6, .u (.c (.int))), (19, .u (.c (.int))), (20, .u (.c (.int)))], [(10000000, ⟨false, 4, 53, .vec .u64⟩), (10000001, ⟨false, 4, 53, .vec .u64⟩)]⟩, .exit 2⟩)]
def env77 (N : Nat) : List (Nat × Sg) := [(169, g169 N), (75, g75 N), (72, g72 N)]
theorem env77_ok (N : Nat) : EnvOK Try.prog pd.els (env77 N) := ⟨g169_ok N, ⟨g75_ok N, ⟨g72_ok N, trivial⟩⟩⟩
theorem g77_ok (N : Nat) : SgOK Try.prog pd.els 77 (g77 N) :=
  sgK_ok pd_ok (env_look (env77_ok N)) Try.func77 (name_ne (by kernel_rfl)) [K.int] [K.fr, K.int] _ N tab77 4 fun x => by kernel_rfl
def p76 (N : Nat) (a0 : Fr) (b1 : Fr) : Option (Fr × Unit) :=
  Option.bind (p172 N ({ a0 := Fr.a0 a0, a1 := Fr.a1 a0, a2 := Fr.a2 a0, a3 := Fr.a3 a0 }) ({ a0 := Fr.a0 b1, a1 := Fr.a1 b1, a2 := Fr.a2 b1, a3 := Fr.a3 b1 })) fun r0 => Option.bind (p170 N ({ a0 := Fr.a0 (Prod.fst r0), a1 := Fr.a1 (Prod.fst r0), a2 := Fr.a2 (Prod.fst r0), a3 := Fr.a3 (Prod.fst r0) })) fun r1 => some (({ a0 := Fr.a0 (Prod.fst r1), a1 := Fr.a1 (Prod.fst r1), a2 := Fr.a2 (Prod.fst r1), a3 := Fr.a3 (Prod.fst r1) }, ()))
def g76 (N : Nat) : Sg := sgK [K.fr, K.fr] [K.fr] fun x => p76 N x.1 x.2.1
def tab76 : List (Nat × Head) := [
    ]
def env76 (N : Nat) : List (Nat × Sg) := [(172, g172 N), (170, g170 N)]
theorem env76_ok (N : Nat) : EnvOK Try.prog pd.els (env76 N) := ⟨g172_ok N, ⟨g170_ok N, trivial⟩⟩
theorem g76_ok (N : Nat) : SgOK Try.prog pd.els 76 (g76 N) :=
  sgK_ok pd_ok (env_look (env76_ok N)) Try.func76 (name_ne (by kernel_rfl)) [K.fr, K.fr] [K.fr] _ N tab76 4 fun x => by kernel_rfl
def p88 (N : Nat) : Option (List UInt64 × Unit) :=
  some (([(18446744069414584321 : UInt64), (6034159408538082302 : UInt64), (3691218898639771653 : UInt64), (8353516859464449352 : UInt64)], ()))
def g88 (N : Nat) : Sg := sgK [] [(K.ro .u64)] fun x => p88 N
def tab88 : List (Nat × Head) := [
    ]
def env88 (N : Nat) : List (Nat × Sg) := []
theorem env88_ok (N : Nat) : EnvOK Try.prog pd.els (env88 N) := trivial
theorem g88_ok (N : Nat) : SgOK Try.prog pd.els 88 (g88 N) :=
  sgK_ok pd_ok (env_look (env88_ok N)) Try.func88 (name_ne (by kernel_rfl)) [] [(K.ro .u64)] _ N tab88 4 fun x => by kernel_rfl
def b168_2 (N : Nat) (A_2 : (List UInt64) → (List UInt64) → Int → Option (Bool × Unit)) (a0 : List UInt64) (m1 : List UInt64) (i5 : Int) : Option (Bool × Unit) :=
  cond (hide (leI (0 : Int) i5)) (must (leI (0 : Int) i5 && ltI i5 (↑(List.length a0) : Int)) (must (leI (0 : Int) i5 && ltI i5 (↑(List.length m1) : Int)) (cond (hide !List.getD a0 (Int.toNat i5) (0 : UInt64) == List.getD m1 (Int.toNat i5) (0 : UInt64)) (must (leI (0 : Int) i5 && ltI i5 (↑(List.length a0) : Int)) (must (leI (0 : Int) i5 && ltI i5 (↑(List.length m1) : Int)) (some ((hide (ltN (UInt64.toNat (List.getD a0 (Int.toNat i5) (0 : UInt64))) (UInt64.toNat (List.getD m1 (Int.toNat i5) (0 : UInt64)))), ()))))) (A_2 a0 m1 (hide (wr (i5 - (1 : Int)))))))) (some ((false, ())))
def l168_2 (N : Nat) (n : Nat) (a0 : List UInt64) (m1 : List UInt64) (i5 : Int) : Option (Bool × Unit) :=
  loopN (fun A x => b168_2 N (fun a0 m1 i5 => A ((a0, (m1, (i5, ()))), ())) x.1.1 x.1.2.1 x.1.2.2.1) n ((a0, (m1, (i5, ()))), ())
def p168 (N : Nat) (a0 : List UInt64) (m1 : List UInt64) : Option (Bool × Unit) :=
  l168_2 N N a0 m1 (hide (wr ((↑(List.length m1) : Int) - (1 : Int))))
def g168 (N : Nat) : Sg := sgK [(K.ro .u64), (K.ro .u64)] [K.bool] fun x => p168 N x.1 x.2.1
def tab168 : List (Nat × Head) := [
    (2, ⟨⟨31, [(0, .u (.c (.ro .u64))), (1, .u (.c (.ro .u64))), (5, .u (.c (.int)))], []⟩, .exit 0⟩)]
def env168 (N : Nat) : List (Nat × Sg) := []
theorem env168_ok (N : Nat) : EnvOK Try.prog pd.els (env168 N) := trivial
theorem g168_ok (N : Nat) : SgOK Try.prog pd.els 168 (g168 N) :=
  sgK_ok pd_ok (env_look (env168_ok N)) Try.func168 (name_ne (by kernel_rfl)) [(K.ro .u64), (K.ro .u64)] [K.bool] _ N tab168 4 fun x => by kernel_rfl
def p69 (N : Nat) (a0 : Fr) : Option (Bool × Unit) :=
  Option.bind (p88 N) fun r0 => Option.bind (p168 N (List.take (Int.toNat ((↑(4 : Nat) : Int) - (0 : Int))) [Fr.a0 a0, Fr.a1 a0, Fr.a2 a0, Fr.a3 a0]) (Prod.fst r0)) fun r1 => some ((Prod.fst r1, ()))
def g69 (N : Nat) : Sg := sgK [K.fr] [K.bool] fun x => p69 N x.1
def tab69 : List (Nat × Head) := [
    ]
def env69 (N : Nat) : List (Nat × Sg) := [(88, g88 N), (168, g168 N)]
theorem env69_ok (N : Nat) : EnvOK Try.prog pd.els (env69 N) := ⟨g88_ok N, ⟨g168_ok N, trivial⟩⟩
theorem g69_ok (N : Nat) : SgOK Try.prog pd.els 69 (g69 N) :=
  sgK_ok pd_ok (env_look (env69_ok N)) Try.func69 (name_ne (by kernel_rfl)) [K.fr] [K.bool] _ N tab69 4 fun x => by kernel_rfl
def p173 (N : Nat) (n0 : UInt64) : Option (Fr × Unit) :=
  some (({ a0 := n0, a1 := (0 : UInt64), a2 := (0 : UInt64), a3 := (0 : UInt64) }, ()))
def g173 (N : Nat) : Sg := sgK [K.u64] [K.fr] fun x => p173 N x.1
def tab173 : List (Nat × Head) := [
    ]
def env173 (N : Nat) : List (Nat × Sg) := []
theorem env173_ok (N : Nat) : EnvOK Try.prog pd.els (env173 N) := trivial
theorem g173_ok (N : Nat) : SgOK Try.prog pd.els 173 (g173 N) :=
  sgK_ok pd_ok (env_look (env173_ok N)) Try.func173 (name_ne (by kernel_rfl)) [K.u64] [K.fr] _ N tab173 4 fun x => by kernel_rfl
def b214_2 (N : Nat) (A_2 : Nat → Nat → (List UInt64) → UInt64 → Int → (List UInt64) → Option (List UInt64 × Unit)) (t0f : Nat) (t0n : Nat) (m1 : List UInt64) (c4 : UInt64) (i5 : Int) (t0o : List UInt64) : Option (List UInt64 × Unit) :=
  cond (hide (ltI i5 (↑(List.length m1) : Int))) (must (leI (0 : Int) i5 && ltI i5 (↑t0n : Int)) (must (leI (0 : Int) i5 && ltI i5 (↑(List.length m1) : Int)) (Option.bind (kSub (List.getD t0o (t0f + Int.toNat i5) (0 : UInt64)) (List.getD m1 (Int.toNat i5) (0 : UInt64)) c4) fun r0 => must (leI (0 : Int) i5 && ltI i5 (↑t0n : Int)) (A_2 t0f t0n m1 (Prod.snd r0) (hide (wr (i5 + (1 : Int)))) (setL t0o (t0f + Int.toNat i5) (Prod.fst r0)))))) (some ((t0o, ())))
def l214_2 (N : Nat) (n : Nat) (t0f : Nat) (t0n : Nat) (m1 : List UInt64) (c4 : UInt64) (i5 : Int) (t0o : List UInt64) : Option (List UInt64 × Unit) :=
  loopN (fun A x => b214_2 N (fun t0f t0n m1 c4 i5 t0o => A (((t0f, t0n), (m1, (c4, (i5, ())))), (t0o, ()))) x.1.1.1 x.1.1.2 x.1.2.1 x.1.2.2.1 x.1.2.2.2.1 x.2.1) n (((t0f, t0n), (m1, (c4, (i5, ())))), (t0o, ()))
def p214 (N : Nat) (t0 : List UInt64) (m1 : List UInt64) : Option (List UInt64 × Unit) :=
  l214_2 N N ((0 : Nat)) (List.length t0) m1 ((0 : UInt64)) ((0 : Int)) t0
def g214 (N : Nat) : Sg := sgIO 1 [(K.vec .u64), (K.ro .u64)] [(K.vec .u64)] fun x => p214 N x.1 x.2.1
def tab214 : List (Nat × Head) := [
    (2, ⟨⟨28, [(0, .u (.c (.sl 3000000))), (1, .u (.c (.ro .u64))), (4, .u (.c (.u64))), (5, .u (.c (.int)))], [(3000000, ⟨false, 0, 1000000, .vec .u64⟩)]⟩, .exit 0⟩)]
def env214 (N : Nat) : List (Nat × Sg) := [(159, sg3 kSub)]
theorem env214_ok (N : Nat) : EnvOK Try.prog pd.els (env214 N) := ⟨e159_ok, trivial⟩
theorem g214_ok (N : Nat) : SgOK Try.prog pd.els 214 (g214 N) :=
  sgIO_ok pd_ok (env_look (env214_ok N)) Try.func214 (name_ne (by kernel_rfl)) 1 (by decide) [(K.vec .u64), (K.ro .u64)] [(K.vec .u64)] _ N tab214 4 fun x => by kernel_rfl
def b184_27 (N : Nat) (A_10 : (List UInt64) → (List UInt64) → (List UInt64) → Int → UInt64 → Int → (List UInt64) → Option (List UInt64 × Unit)) (A_27 : (List UInt64) → (List UInt64) → (List UInt64) → Int → UInt64 → Int → UInt64 → UInt64 → Int → (List UInt64) → Option (List UInt64 × Unit)) (a0 : List UInt64) (b1 : List UInt64) (m2 : List UInt64) (n7 : Int) (inv8 : UInt64) (i11 : Int) (c12 : UInt64) (q21 : UInt64) (k24 : Int) (t10o : List UInt64) : Option (List UInt64 × Unit) :=
  cond (hide (ltI k24 n7)) (must (leI (0 : Int) k24 && ltI k24 (↑(List.length m2) : Int)) (Option.bind (p163 N q21 (List.getD m2 (Int.toNat k24) (0 : UInt64))) fun r1 => must (leI (0 : Int) k24 && ltI k24 (↑(List.length t10o) : Int)) (Option.bind (kAdd (List.getD t10o (Int.toNat k24) (0 : UInt64)) (Prod.fst (Prod.snd r1)) ((0 : UInt64))) fun r2 => Option.bind (kAdd (Prod.fst r2) c12 ((0 : UInt64))) fun r3 => must (leI (0 : Int) (hide (wr (k24 - (1 : Int)))) && ltI (hide (wr (k24 - (1 : Int)))) (↑(List.length t10o) : Int)) (A_27 a0 b1 m2 n7 inv8 i11 (hide (hide (Prod.fst r1 + Prod.snd r2) + Prod.snd r3)) q21 (hide (wr (k24 + (1 : Int)))) (setL t10o (Int.toNat (hide (wr (k24 - (1 : Int))))) (Prod.fst r3)))))) (must (leI (0 : Int) n7 && ltI n7 (↑(List.length t10o) : Int)) (Option.bind (kAdd (List.getD t10o (Int.toNat n7) (0 : UInt64)) c12 ((0 : UInt64))) fun r0 => must (leI (0 : Int) (hide (wr (n7 + (1 : Int)))) && ltI (hide (wr (n7 + (1 : Int)))) (↑(List.length t10o) : Int)) (must (leI (0 : Int) (hide (wr (n7 - (1 : Int)))) && ltI (hide (wr (n7 - (1 : Int)))) (↑(List.length t10o) : Int)) (must (leI (0 : Int) n7 && ltI n7 (↑(List.length (setL t10o (Int.toNat (hide (wr (n7 - (1 : Int))))) (Prod.fst r0))) : Int)) (A_10 a0 b1 m2 n7 inv8 (hide (wr (i11 + (1 : Int)))) (setL (setL t10o (Int.toNat (hide (wr (n7 - (1 : Int))))) (Prod.fst r0)) (Int.toNat n7) (hide (List.getD t10o (Int.toNat (hide (wr (n7 + (1 : Int))))) (0 : UInt64) + Prod.snd r0))))))))
def l184_27 (N : Nat) (A_10 : (List UInt64) → (List UInt64) → (List UInt64) → Int → UInt64 → Int → (List UInt64) → Option (List UInt64 × Unit)) (n : Nat) (a0 : List UInt64) (b1 : List UInt64) (m2 : List UInt64) (n7 : Int) (inv8 : UInt64) (i11 : Int) (c12 : UInt64) (q21 : UInt64) (k24 : Int) (t10o : List UInt64) : Option (List UInt64 × Unit) :=
  loopN (fun A x => b184_27 N A_10 (fun a0 b1 m2 n7 inv8 i11 c12 q21 k24 t10o => A ((a0, (b1, (m2, (n7, (inv8, ((), (i11, (c12, (q21, (k24, ())))))))))), (t10o, ()))) x.1.1 x.1.2.1 x.1.2.2.1 x.1.2.2.2.1 x.1.2.2.2.2.1 x.1.2.2.2.2.2.2.1 x.1.2.2.2.2.2.2.2.1 x.1.2.2.2.2.2.2.2.2.1 x.1.2.2.2.2.2.2.2.2.2.1 x.2.1) n ((a0, (b1, (m2, (n7, (inv8, ((), (i11, (c12, (q21, (k24, ())))))))))), (t10o, ()))
def b184_14 (N : Nat) (A_10 : (List UInt64) → (List UInt64) → (List UInt64) → Int → UInt64 → Int → (List UInt64) → Option (List UInt64 × Unit)) (A_14 : (List UInt64) → (List UInt64) → (List UInt64) → Int → UInt64 → Int → UInt64 → Int → (List UInt64) → Option (List UInt64 × Unit)) (a0 : List UInt64) (b1 : List UInt64) (m2 : List UInt64) (n7 : Int) (inv8 : UInt64) (i11 : Int) (c12 : UInt64) (k13 : Int) (t10o : List UInt64) : Option (List UInt64 × Unit) :=
  cond (hide (ltI k13 n7)) (must (leI (0 : Int) i11 && ltI i11 (↑(List.length a0) : Int)) (must (leI (0 : Int) k13 && ltI k13 (↑(List.length b1) : Int)) (Option.bind (p163 N (List.getD a0 (Int.toNat i11) (0 : UInt64)) (List.getD b1 (Int.toNat k13) (0 : UInt64))) fun r3 => must (leI (0 : Int) k13 && ltI k13 (↑(List.length t10o) : Int)) (Option.bind (kAdd (List.getD t10o (Int.toNat k13) (0 : UInt64)) (Prod.fst (Prod.snd r3)) ((0 : UInt64))) fun r4 => Option.bind (kAdd (Prod.fst r4) c12 ((0 : UInt64))) fun r5 => must (leI (0 : Int) k13 && ltI k13 (↑(List.length t10o) : Int)) (A_14 a0 b1 m2 n7 inv8 i11 (hide (hide (Prod.fst r3 + Prod.snd r4) + Prod.snd r5)) (hide (wr (k13 + (1 : Int)))) (setL t10o (Int.toNat k13) (Prod.fst r5))))))) (must (leI (0 : Int) n7 && ltI n7 (↑(List.length t10o) : Int)) (Option.bind (kAdd (List.getD t10o (Int.toNat n7) (0 : UInt64)) c12 ((0 : UInt64))) fun r0 => must (leI (0 : Int) n7 && ltI n7 (↑(List.length t10o) : Int)) (must (leI (0 : Int) (hide (wr (n7 + (1 : Int)))) && ltI (hide (wr (n7 + (1 : Int)))) (↑(List.length (setL t10o (Int.toNat n7) (Prod.fst r0))) : Int)) (must (ltI (0 : Int) (↑(List.length (setL (setL t10o (Int.toNat n7) (Prod.fst r0)) (Int.toNat (hide (wr (n7 + (1 : Int))))) (Prod.snd r0))) : Int)) (must (ltI (0 : Int) (↑(List.length m2) : Int)) (Option.bind (p163 N (hide (List.getD (setL (setL t10o (Int.toNat n7) (Prod.fst r0)) (Int.toNat (hide (wr (n7 + (1 : Int))))) (Prod.snd r0)) (0 : Nat) (0 : UInt64) * inv8)) (List.getD m2 (0 : Nat) (0 : UInt64))) fun r1 => must (ltI (0 : Int) (↑(List.length (setL (setL t10o (Int.toNat n7) (Prod.fst r0)) (Int.toNat (hide (wr (n7 + (1 : Int))))) (Prod.snd r0))) : Int)) (Option.bind (kAdd (List.getD (setL (setL t10o (Int.toNat n7) (Prod.fst r0)) (Int.toNat (hide (wr (n7 + (1 : Int))))) (Prod.snd r0)) (0 : Nat) (0 : UInt64)) (Prod.fst (Prod.snd r1)) ((0 : UInt64))) fun r2 => l184_27 N A_10 N a0 b1 m2 n7 inv8 i11 (hide (Prod.fst r1 + Prod.snd r2)) (hide (List.getD (setL (setL t10o (Int.toNat n7) (Prod.fst r0)) (Int.toNat (hide (wr (n7 + (1 : Int))))) (Prod.snd r0)) (0 : Nat) (0 : UInt64) * inv8)) ((1 : Int)) (setL (setL t10o (Int.toNat n7) (Prod.fst r0)) (Int.toNat (hide (wr (n7 + (1 : Int))))) (Prod.snd r0)))))))))
def l184_14 (N : Nat) (A_10 : (List UInt64) → (List UInt64) → (List UInt64) → Int → UInt64 → Int → (List UInt64) → Option (List UInt64 × Unit)) (n : Nat) (a0 : List UInt64) (b1 : List UInt64) (m2 : List UInt64) (n7 : Int) (inv8 : UInt64) (i11 : Int) (c12 : UInt64) (k13 : Int) (t10o : List UInt64) : Option (List UInt64 × Unit) :=
  loopN (fun A x => b184_14 N A_10 (fun a0 b1 m2 n7 inv8 i11 c12 k13 t10o => A ((a0, (b1, (m2, (n7, (inv8, ((), (i11, (c12, (k13, ()))))))))), (t10o, ()))) x.1.1 x.1.2.1 x.1.2.2.1 x.1.2.2.2.1 x.1.2.2.2.2.1 x.1.2.2.2.2.2.2.1 x.1.2.2.2.2.2.2.2.1 x.1.2.2.2.2.2.2.2.2.1 x.2.1) n ((a0, (b1, (m2, (n7, (inv8, ((), (i11, (c12, (k13, ()))))))))), (t10o, ()))
def b184_10 (N : Nat) (A_10 : (List UInt64) → (List UInt64) → (List UInt64) → Int → UInt64 → Int → (List UInt64) → Option (List UInt64 × Unit)) (a0 : List UInt64) (b1 : List UInt64) (m2 : List UInt64) (n7 : Int) (inv8 : UInt64) (i11 : Int) (t10o : List UInt64) : Option (List UInt64 × Unit) :=
  cond (hide (ltI i11 n7)) (l184_14 N A_10 N a0 b1 m2 n7 inv8 i11 ((0 : UInt64)) ((0 : Int)) t10o) (must (leI (0 : Int) n7 && ltI n7 (↑(List.length t10o) : Int)) (cond (hide !List.getD t10o (Int.toNat n7) (0 : UInt64) == (0 : UInt64)) (must (ltN (0 : Nat) (List.length t10o)) (Option.bind (p214 N t10o m2) fun r2 => must (Nat.beq (List.length (Prod.fst r2)) (List.length t10o)) (must (leI (0 : Int) n7 && leI n7 (↑(List.length (Prod.fst r2)) : Int)) (must (ltN (0 : Nat) (Int.toNat (n7 - (0 : Int)))) (some ((List.take (Int.toNat (n7 - (0 : Int))) (Prod.fst r2), ()))))))) (must (leI (0 : Int) n7 && leI n7 (↑(List.length t10o) : Int)) (Option.bind (p168 N (List.take (Int.toNat (n7 - (0 : Int))) t10o) m2) fun r0 => cond (hide !Prod.fst r0) (must (ltN (0 : Nat) (List.length t10o)) (Option.bind (p214 N t10o m2) fun r1 => must (Nat.beq (List.length (Prod.fst r1)) (List.length t10o)) (must (leI (0 : Int) n7 && leI n7 (↑(List.length (Prod.fst r1)) : Int)) (must (ltN (0 : Nat) (Int.toNat (n7 - (0 : Int)))) (some ((List.take (Int.toNat (n7 - (0 : Int))) (Prod.fst r1), ()))))))) (must (leI (0 : Int) n7 && leI n7 (↑(List.length t10o) : Int)) (must (ltN (0 : Nat) (Int.toNat (n7 - (0 : Int)))) (some ((List.take (Int.toNat (n7 - (0 : Int))) t10o, ())))))))))
def l184_10 (N : Nat) (n : Nat) (a0 : List UInt64) (b1 : List UInt64) (m2 : List UInt64) (n7 : Int) (inv8 : UInt64) (i11 : Int) (t10o : List UInt64) : Option (List UInt64 × Unit) :=
  loopN (fun A x => b184_10 N (fun a0 b1 m2 n7 inv8 i11 t10o => A ((a0, (b1, (m2, (n7, (inv8, ((), (i11, ()))))))), (t10o, ()))) x.1.1 x.1.2.1 x.1.2.2.1 x.1.2.2.2.1 x.1.2.2.2.2.1 x.1.2.2.2.2.2.2.1 x.2.1) n ((a0, (b1, (m2, (n7, (inv8, ((), (i11, ()))))))), (t10o, ()))
def b184_4 (N : Nat) (A_4 : (List UInt64) → (List UInt64) → (List UInt64) → Int → UInt64 → Int → Option (List UInt64 × Unit)) (a0 : List UInt64) (b1 : List UInt64) (m2 : List UInt64) (n7 : Int) (inv8 : UInt64) (i9 : Int) : Option (List UInt64 × Unit) :=
  cond (hide (ltI i9 (6 : Int))) (must (ltI (0 : Int) (↑(List.length m2) : Int)) (A_4 a0 b1 m2 n7 (hide (inv8 * hide ((2 : UInt64) - hide (List.getD m2 (0 : Nat) (0 : UInt64) * inv8)))) (hide (wr (i9 + (1 : Int)))))) (must (leI (0 : Int) (hide (wr (n7 + (2 : Int)))) && (eqI (hide (wr (n7 + (2 : Int)))) (hide (wr (n7 + (2 : Int)))) && leN (Int.toNat (hide (wr (n7 + (2 : Int)))) * (8 : Nat)) (140737488355328 : Nat))) (l184_10 N N a0 b1 m2 n7 (hide ((0 : UInt64) - inv8)) ((0 : Int)) (List.replicate (Int.toNat (hide (wr (n7 + (2 : Int))))) (0 : UInt64))))
def l184_4 (N : Nat) (n : Nat) (a0 : List UInt64) (b1 : List UInt64) (m2 : List UInt64) (n7 : Int) (inv8 : UInt64) (i9 : Int) : Option (List UInt64 × Unit) :=
  loopN (fun A x => b184_4 N (fun a0 b1 m2 n7 inv8 i9 => A ((a0, (b1, (m2, (n7, (inv8, (i9, ())))))), ())) x.1.1 x.1.2.1 x.1.2.2.1 x.1.2.2.2.1 x.1.2.2.2.2.1 x.1.2.2.2.2.2.1) n ((a0, (b1, (m2, (n7, (inv8, (i9, ())))))), ())
def p184 (N : Nat) (a0 : List UInt64) (b1 : List UInt64) (m2 : List UInt64) : Option (List UInt64 × Unit) :=
  must (ltI (0 : Int) (↑(List.length m2) : Int)) (l184_4 N N a0 b1 m2 ((↑(List.length m2) : Int)) (List.getD m2 (0 : Nat) (0 : UInt64)) ((0 : Int)))
def g184 (N : Nat) : Sg := sgK [(K.ro .u64), (K.ro .u64), (K.ro .u64)] [(K.view .u64)] fun x => p184 N x.1 x.2.1 x.2.2.1
def tab184 : List (Nat × Head) := [
    (4, ⟨⟨222, [(0, .u (.c (.ro .u64))), (1, .u (.c (.ro .u64))), (2, .u (.c (.ro .u64))), (7, .u (.c (.int))), (8, .u (.c (.u64))), (9, .u (.c (.int)))], []⟩, .exit 0⟩),
    (10, ⟨⟨222, [(0, .u (.c (.ro .u64))), (1, .u (.c (.ro .u64))), (2, .u (.c (.ro .u64))), (7, .u (.c (.int))), (8, .u (.c (.u64))), (10, .u (.c (.row 11000000))), (11, .u (.c (.int)))], [(11000000, ⟨true, 0, 42, .vec .u64⟩)]⟩, .exit 2⟩),
    (14, ⟨⟨222, [(0, .u (.c (.ro .u64))), (1, .u (.c (.ro .u64))), (2, .u (.c (.ro .u64))), (7, .u (.c (.int))), (8, .u (.c (.u64))), (10, .u (.c (.row 15000000))), (11, .u (.c (.int))), (12, .u (.c (.u64))), (13, .u (.c (.int)))], [(15000000, ⟨true, 0, 42, .vec .u64⟩)]⟩, .exit 4⟩),
    (27, ⟨⟨222, [(0, .u (.c (.ro .u64))), (1, .u (.c (.ro .u64))), (2, .u (.c (.ro .u64))), (7, .u (.c (.int))), (8, .u (.c (.u64))), (10, .u (.c (.row 28000000))), (11, .u (.c (.int))), (12, .u (.c (.u64))), (21, .u (.c (.u64))), (24, .u (.c (.int)))], [(28000000, ⟨true, 0, 42, .vec .u64⟩)]⟩, .exit 6⟩)]
def env184 (N : Nat) : List (Nat × Sg) := [(163, g163 N), (164, sg3 kAdd), (168, g168 N), (214, g214 N)]
theorem env184_ok (N : Nat) : EnvOK Try.prog pd.els (env184 N) := ⟨g163_ok N, ⟨e164_ok, ⟨g168_ok N, ⟨g214_ok N, trivial⟩⟩⟩⟩
theorem g184_ok (N : Nat) : SgOK Try.prog pd.els 184 (g184 N) :=
  sgK_ok pd_ok (env_look (env184_ok N)) Try.func184 (name_ne (by kernel_rfl)) [(K.ro .u64), (K.ro .u64), (K.ro .u64)] [(K.view .u64)] _ N tab184 4 fun x => by kernel_rfl
def p175 (N : Nat) (a0 : List UInt64) : Option (Fr × Unit) :=
  must (Nat.beq (List.length (splice [(0 : UInt64), (0 : UInt64), (0 : UInt64), (0 : UInt64)] (Int.toNat (0 : Int)) (List.take (Int.toNat ((↑(4 : Nat) : Int) - (0 : Int))) a0))) (4 : Nat)) (Option.bind (Fr.of? (splice [(0 : UInt64), (0 : UInt64), (0 : UInt64), (0 : UInt64)] (Int.toNat (0 : Int)) (List.take (Int.toNat ((↑(4 : Nat) : Int) - (0 : Int))) a0))) fun r0 => some ((r0, ())))
def g175 (N : Nat) : Sg := sgK [(K.ro .u64)] [K.fr] fun x => p175 N x.1
def tab175 : List (Nat × Head) := [
    ]
def env175 (N : Nat) : List (Nat × Sg) := []
theorem env175_ok (N : Nat) : EnvOK Try.prog pd.els (env175 N) := trivial
theorem g175_ok (N : Nat) : SgOK Try.prog pd.els 175 (g175 N) :=
  sgK_ok pd_ok (env_look (env175_ok N)) Try.func175 (name_ne (by kernel_rfl)) [(K.ro .u64)] [K.fr] _ N tab175 4 fun x => by kernel_rfl
def p94 (N : Nat) (a0 : Fr) (b1 : Fr) : Option (Fr × Unit) :=
  Option.bind (p88 N) fun r0 => Option.bind (p184 N (List.take (Int.toNat ((↑(4 : Nat) : Int) - (0 : Int))) [Fr.a0 a0, Fr.a1 a0, Fr.a2 a0, Fr.a3 a0]) (List.take (Int.toNat ((↑(4 : Nat) : Int) - (0 : Int))) [Fr.a0 b1, Fr.a1 b1, Fr.a2 b1, Fr.a3 b1]) (Prod.fst r0)) fun r1 => Option.bind (p184 N (List.take (List.length (Prod.fst r1)) (List.drop (0 : Nat) (Prod.fst r1))) ([(14526898881837571181 : UInt64), (3129137299524312099 : UInt64), (419701826671360399 : UInt64), (524908885293268753 : UInt64)]) (Prod.fst r0)) fun r2 => Option.bind (p175 N (List.take (List.length (Prod.fst r2)) (List.drop (0 : Nat) (Prod.fst r2)))) fun r3 => some (({ a0 := Fr.a0 (Prod.fst r3), a1 := Fr.a1 (Prod.fst r3), a2 := Fr.a2 (Prod.fst r3), a3 := Fr.a3 (Prod.fst r3) }, ()))
def g94 (N : Nat) : Sg := sgK [K.fr, K.fr] [K.fr] fun x => p94 N x.1 x.2.1
def tab94 : List (Nat × Head) := [
    ]
def env94 (N : Nat) : List (Nat × Sg) := [(88, g88 N), (184, g184 N), (175, g175 N)]
theorem env94_ok (N : Nat) : EnvOK Try.prog pd.els (env94 N) := ⟨g88_ok N, ⟨g184_ok N, ⟨g175_ok N, trivial⟩⟩⟩
theorem g94_ok (N : Nat) : SgOK Try.prog pd.els 94 (g94 N) :=
  sgK_ok pd_ok (env_look (env94_ok N)) Try.func94 (name_ne (by kernel_rfl)) [K.fr, K.fr] [K.fr] _ N tab94 4 fun x => by kernel_rfl
def b73_3 (N : Nat) (A_3 : (List UInt64) → Int → (List UInt64) → (List UInt64) → (List UInt64) → Option (Fr × Unit)) (e1 : List UInt64) (i6 : Int) (ob0 : List UInt64) (ob1 : List UInt64) (ob2 : List UInt64) : Option (Fr × Unit) :=
  cond (hide (leI (0 : Int) i6)) (Option.bind (Option.bind (Option.bind (Fr.of? ob2) fun r1 => Option.bind (Option.bind (Fr.of? ob2) fun r2 => some ((r2, ()))) fun r3 => some ((r1, r3))) fun r4 => p94 N (Prod.fst r4) (Prod.fst (Prod.snd r4))) fun r5 => Option.bind (p162 N e1 i6) fun r6 => cond (hide (Prod.fst r6 == (1 : UInt64))) (Option.bind (Option.bind (Option.bind (Option.bind (Fr.of? ob0) fun r7 => some ((r7, ()))) fun r8 => some (({ a0 := Fr.a0 (Prod.fst r5), a1 := Fr.a1 (Prod.fst r5), a2 := Fr.a2 (Prod.fst r5), a3 := Fr.a3 (Prod.fst r5) }, r8))) fun r9 => p94 N (Prod.fst r9) (Prod.fst (Prod.snd r9))) fun r10 => A_3 e1 (hide (wr (i6 - (1 : Int)))) ob0 ob1 ([Fr.a0 (Prod.fst r10), Fr.a1 (Prod.fst r10), Fr.a2 (Prod.fst r10), Fr.a3 (Prod.fst r10)])) (A_3 e1 (hide (wr (i6 - (1 : Int)))) ob0 ob1 ([Fr.a0 (Prod.fst r5), Fr.a1 (Prod.fst r5), Fr.a2 (Prod.fst r5), Fr.a3 (Prod.fst r5)]))) (must (Nat.beq (List.length ob2) (4 : Nat)) (Option.bind (Fr.of? ob2) fun r0 => some ((r0, ()))))
def l73_3 (N : Nat) (n : Nat) (e1 : List UInt64) (i6 : Int) (ob0 : List UInt64) (ob1 : List UInt64) (ob2 : List UInt64) : Option (Fr × Unit) :=
  loopN (fun A x => b73_3 N (fun e1 i6 ob0 ob1 ob2 => A ((e1, ((), ((), ((), (i6, ()))))), (ob0, (ob1, (ob2, ()))))) x.1.1 x.1.2.2.2.2.1 x.2.1 x.2.2.1 x.2.2.2.1) n ((e1, ((), ((), ((), (i6, ()))))), (ob0, (ob1, (ob2, ()))))
def p73 (N : Nat) (a0 : Fr) (e1 : List UInt64) : Option (Fr × Unit) :=
  Option.bind (p173 N ((1 : UInt64))) fun r0 => l73_3 N N e1 (hide (wr (hide (wr ((64 : Int) * (↑(List.length e1) : Int))) - (1 : Int)))) ([Fr.a0 a0, Fr.a1 a0, Fr.a2 a0, Fr.a3 a0]) ([(0 : UInt64), (0 : UInt64), (0 : UInt64), (0 : UInt64)]) ([Fr.a0 (Prod.fst r0), Fr.a1 (Prod.fst r0), Fr.a2 (Prod.fst r0), Fr.a3 (Prod.fst r0)])
def g73 (N : Nat) : Sg := sgK [K.fr, (K.ro .u64)] [K.fr] fun x => p73 N x.1 x.2.1
def tab73 : List (Nat × Head) := [
    (3, ⟨⟨27, [(1, .u (.c (.ro .u64))), (2, .u (.c (.ptr0 4000000 0))), (4, .u (.c (.ptr0 4000001 0))), (5, .u (.c (.ptr0 4000002 0))), (6, .u (.c (.int)))], [(4000000, ⟨false, 4, 53, .vec .u64⟩), (4000001, ⟨false, 4, 53, .vec .u64⟩), (4000002, ⟨false, 4, 53, .vec .u64⟩)]⟩, .exit 0⟩)]
def env73 (N : Nat) : List (Nat × Sg) := [(173, g173 N), (94, g94 N), (162, g162 N)]
theorem env73_ok (N : Nat) : EnvOK Try.prog pd.els (env73 N) := ⟨g173_ok N, ⟨g94_ok N, ⟨g162_ok N, trivial⟩⟩⟩
theorem g73_ok (N : Nat) : SgOK Try.prog pd.els 73 (g73 N) :=
  sgK_ok pd_ok (env_look (env73_ok N)) Try.func73 (name_ne (by kernel_rfl)) [K.fr, (K.ro .u64)] [K.fr] _ N tab73 4 fun x => by kernel_rfl
def b78_5 (N : Nat) (A_5 : Int → (List UInt64) → (List UInt64) → Option (Fr × Int × Unit)) (i5 : Int) (ob0 : List UInt64) (ob1 : List UInt64) : Option (Fr × Int × Unit) :=
  cond (hide (ltI i5 (32 : Int))) (Option.bind (Option.bind (Option.bind (Fr.of? ob1) fun r1 => Option.bind (Option.bind (Fr.of? ob1) fun r2 => some ((r2, ()))) fun r3 => some ((r1, r3))) fun r4 => p94 N (Prod.fst r4) (Prod.fst (Prod.snd r4))) fun r5 => A_5 (hide (wr (i5 + (1 : Int)))) ob0 ([Fr.a0 (Prod.fst r5), Fr.a1 (Prod.fst r5), Fr.a2 (Prod.fst r5), Fr.a3 (Prod.fst r5)])) (must (Nat.beq (List.length ob1) (4 : Nat)) (Option.bind (Fr.of? ob1) fun r0 => some ((r0, (0 : Int), ()))))
def l78_5 (N : Nat) (n : Nat) (i5 : Int) (ob0 : List UInt64) (ob1 : List UInt64) : Option (Fr × Int × Unit) :=
  loopN (fun A x => b78_5 N (fun i5 ob0 ob1 => A (((), ((), (i5, ()))), (ob0, (ob1, ())))) x.1.2.2.1 x.2.1 x.2.2.1) n (((), ((), (i5, ()))), (ob0, (ob1, ())))
def p78 (N : Nat) (log0 : Int) : Option (Fr × Int × Unit) :=
  cond (hide (ltI log0 (0 : Int))) (some (({ a0 := (0 : UInt64), a1 := (0 : UInt64), a2 := (0 : UInt64), a3 := (0 : UInt64) }, (1 : Int), ()))) (cond (hide (ltI (32 : Int) log0)) (some (({ a0 := (0 : UInt64), a1 := (0 : UInt64), a2 := (0 : UInt64), a3 := (0 : UInt64) }, (1 : Int), ()))) (l78_5 N N log0 ([(0 : UInt64), (0 : UInt64), (0 : UInt64), (0 : UInt64)]) ([(4046931900703378731 : UInt64), (13129826145616953529 : UInt64), (15031722638446171060 : UInt64), (1631043718794977056 : UInt64)])))
def g78 (N : Nat) : Sg := sgK [K.int] [K.fr, K.int] fun x => p78 N x.1
def tab78 : List (Nat × Head) := [
    (5, ⟨⟨23, [(2, .u (.c (.ptr0 6000000 0))), (4, .u (.c (.ptr0 6000001 0))), (5, .u (.c (.int)))], [(6000000, ⟨false, 4, 53, .vec .u64⟩), (6000001, ⟨false, 4, 53, .vec .u64⟩)]⟩, .exit 0⟩)]
def env78 (N : Nat) : List (Nat × Sg) := [(94, g94 N)]
theorem env78_ok (N : Nat) : EnvOK Try.prog pd.els (env78 N) := ⟨g94_ok N, trivial⟩
theorem g78_ok (N : Nat) : SgOK Try.prog pd.els 78 (g78 N) :=
  sgK_ok pd_ok (env_look (env78_ok N)) Try.func78 (name_ne (by kernel_rfl)) [K.int] [K.fr, K.int] _ N tab78 4 fun x => by kernel_rfl
def b80_4 (N : Nat) (A_4 : UInt64 → Int → (List UInt64) → (List UInt64) → (List UInt64) → (List UInt64) → Option (Fr × Unit)) (carry6 : UInt64) (t8 : Int) (ob0 : List UInt64) (ob1 : List UInt64) (ob2 : List UInt64) (ob3 : List UInt64) : Option (Fr × Unit) :=
  cond (hide (ltI t8 (4 : Int))) (must (leI (0 : Int) t8 && ltI t8 (↑(4 : Nat) : Int)) (must (leI (0 : Int) t8 && ltI t8 (↑(4 : Nat) : Int)) (Option.bind (kAdd (List.getD ob0 (Int.toNat t8) (0 : UInt64)) (List.getD ob1 (Int.toNat t8) (0 : UInt64)) carry6) fun r3 => must (leI (0 : Int) t8 && ltI t8 (↑(4 : Nat) : Int)) (A_4 (Prod.snd r3) (hide (wr (t8 + (1 : Int)))) ob0 ob1 ob2 (setL ob3 (Int.toNat t8) (Prod.fst r3)))))) (Option.bind (Option.bind (Option.bind (Fr.of? ob3) fun r0 => some ((r0, carry6, ()))) fun r1 => p174 N (Prod.fst r1) (Prod.fst (Prod.snd r1))) fun r2 => some (({ a0 := Fr.a0 (Prod.fst r2), a1 := Fr.a1 (Prod.fst r2), a2 := Fr.a2 (Prod.fst r2), a3 := Fr.a3 (Prod.fst r2) }, ())))
def l80_4 (N : Nat) (n : Nat) (carry6 : UInt64) (t8 : Int) (ob0 : List UInt64) (ob1 : List UInt64) (ob2 : List UInt64) (ob3 : List UInt64) : Option (Fr × Unit) :=
  loopN (fun A x => b80_4 N (fun carry6 t8 ob0 ob1 ob2 ob3 => A (((), ((), ((), ((), (carry6, (t8, ())))))), (ob0, (ob1, (ob2, (ob3, ())))))) x.1.2.2.2.2.1 x.1.2.2.2.2.2.1 x.2.1 x.2.2.1 x.2.2.2.1 x.2.2.2.2.1) n (((), ((), ((), ((), (carry6, (t8, ())))))), (ob0, (ob1, (ob2, (ob3, ())))))
def p80 (N : Nat) (a0 : Fr) (b1 : Fr) : Option (Fr × Unit) :=
  l80_4 N N ((0 : UInt64)) ((0 : Int)) ([Fr.a0 a0, Fr.a1 a0, Fr.a2 a0, Fr.a3 a0]) ([Fr.a0 b1, Fr.a1 b1, Fr.a2 b1, Fr.a3 b1]) ([(0 : UInt64), (0 : UInt64), (0 : UInt64), (0 : UInt64)]) ([(0 : UInt64), (0 : UInt64), (0 : UInt64), (0 : UInt64)])
def g80 (N : Nat) : Sg := sgK [K.fr, K.fr] [K.fr] fun x => p80 N x.1 x.2.1
def tab80 : List (Nat × Head) := [
    (4, ⟨⟨28, [(2, .u (.c (.ptr0 5000000 0))), (3, .u (.c (.ptr0 5000001 0))), (4, .u (.c (.ptr0 5000002 0))), (5, .u (.c (.ptr0 5000003 0))), (6, .u (.c (.u64))), (8, .u (.c (.int)))], [(5000000, ⟨false, 4, 53, .vec .u64⟩), (5000001, ⟨false, 4, 53, .vec .u64⟩), (5000002, ⟨false, 4, 53, .vec .u64⟩), (5000003, ⟨false, 4, 53, .vec .u64⟩)]⟩, .exit 0⟩)]
def env80 (N : Nat) : List (Nat × Sg) := [(164, sg3 kAdd), (174, g174 N)]
theorem env80_ok (N : Nat) : EnvOK Try.prog pd.els (env80 N) := ⟨e164_ok, ⟨g174_ok N, trivial⟩⟩
theorem g80_ok (N : Nat) : SgOK Try.prog pd.els 80 (g80 N) :=
  sgK_ok pd_ok (env_look (env80_ok N)) Try.func80 (name_ne (by kernel_rfl)) [K.fr, K.fr] [K.fr] _ N tab80 4 fun x => by kernel_rfl
end Go.Proofs.Ytgimohchocjgcaa.V
