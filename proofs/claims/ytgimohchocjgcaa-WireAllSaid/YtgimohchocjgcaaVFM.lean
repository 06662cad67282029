import Derived.Test.YtgimohchocjgcaaVTM
import Derived.KernelRfl
set_option linter.unusedVariables false
set_option linter.unusedSimpArgs false
namespace Go.Proofs.Ytgimohchocjgcaa.V
def p75 (N : Nat) (n0 : UInt64) : Option (Fr × Unit) :=
  some (({ a0 := n0, a1 := (0 : UInt64), a2 := (0 : UInt64), a3 := (0 : UInt64) }, ()))
def g75 (N : Nat) : Sg := sgK [K.u64] [K.fr] fun x => p75 N x.1
def tab75 : List (Nat × Head) := [
    ]
def env75 (N : Nat) : List (Nat × Sg) := []
theorem env75_ok (N : Nat) : EnvOK Try.prog pd.els (env75 N) := trivial
theorem g75_ok (N : Nat) : SgOK Try.prog pd.els 75 (g75 N) :=
  sgK_ok pd_ok (env_look (env75_ok N)) Try.func75 (name_ne (by kernel_rfl)) [K.u64] [K.fr] _ N tab75 4 fun x => by kernel_rfl
def p169 (N : Nat) : Option (Fr × Unit) :=
  some (({ a0 := (18446744069414584321 : UInt64), a1 := (6034159408538082302 : UInt64), a2 := (3691218898639771653 : UInt64), a3 := (8353516859464449352 : UInt64) }, ()))
def g169 (N : Nat) : Sg := sgK [] [K.fr] fun x => p169 N
def tab169 : List (Nat × Head) := [
    ]
def env169 (N : Nat) : List (Nat × Sg) := []
theorem env169_ok (N : Nat) : EnvOK Try.prog pd.els (env169 N) := trivial
theorem g169_ok (N : Nat) : SgOK Try.prog pd.els 169 (g169 N) :=
  sgK_ok pd_ok (env_look (env169_ok N)) Try.func169 (name_ne (by kernel_rfl)) [] [K.fr] _ N tab169 4 fun x => by kernel_rfl
def p213 (N : Nat) : Option (Fr × Unit) :=
  some (({ a0 := (14526898881837571181 : UInt64), a1 := (3129137299524312099 : UInt64), a2 := (419701826671360399 : UInt64), a3 := (524908885293268753 : UInt64) }, ()))
def g213 (N : Nat) : Sg := sgK [] [K.fr] fun x => p213 N
def tab213 : List (Nat × Head) := [
    ]
def env213 (N : Nat) : List (Nat × Sg) := []
theorem env213_ok (N : Nat) : EnvOK Try.prog pd.els (env213 N) := trivial
theorem g213_ok (N : Nat) : SgOK Try.prog pd.els 213 (g213 N) :=
  sgK_ok pd_ok (env_look (env213_ok N)) Try.func213 (name_ne (by kernel_rfl)) [] [K.fr] _ N tab213 4 fun x => by kernel_rfl
def b174_5 (N : Nat) (A_5 : UInt64 → UInt64 → Int → (List UInt64) → (List UInt64) → (List UInt64) → (List UInt64) → Option (Fr × Unit)) (over1 : UInt64) (borrow7 : UInt64) (t10 : Int) (ob0 : List UInt64) (ob1 : List UInt64) (ob2 : List UInt64) (ob3 : List UInt64) : Option (Fr × Unit) :=
  cond (hide (ltI t10 (4 : Int))) (must (leI (0 : Int) t10 && ltI t10 (↑(4 : Nat) : Int)) (must (leI (0 : Int) t10 && ltI t10 (↑(4 : Nat) : Int)) (Option.bind (kSub (List.getD ob0 (Int.toNat t10) (0 : UInt64)) (List.getD ob2 (Int.toNat t10) (0 : UInt64)) borrow7) fun r2 => must (leI (0 : Int) t10 && ltI t10 (↑(4 : Nat) : Int)) (A_5 over1 (Prod.snd r2) (hide (wr (t10 + (1 : Int)))) ob0 ob1 ob2 (setL ob3 (Int.toNat t10) (Prod.fst r2)))))) (cond (hide (ltN (UInt64.toNat over1) (UInt64.toNat borrow7))) (must (Nat.beq (List.length ob0) (4 : Nat)) (Option.bind (Fr.of? ob0) fun r1 => some ((r1, ())))) (must (Nat.beq (List.length ob3) (4 : Nat)) (Option.bind (Fr.of? ob3) fun r0 => some ((r0, ())))))
def l174_5 (N : Nat) (n : Nat) (over1 : UInt64) (borrow7 : UInt64) (t10 : Int) (ob0 : List UInt64) (ob1 : List UInt64) (ob2 : List UInt64) (ob3 : List UInt64) : Option (Fr × Unit) :=
  loopN (fun A x => b174_5 N (fun over1 borrow7 t10 ob0 ob1 ob2 ob3 => A ((over1, ((), ((), ((), ((), (borrow7, (t10, ()))))))), (ob0, (ob1, (ob2, (ob3, ())))))) x.1.1 x.1.2.2.2.2.2.1 x.1.2.2.2.2.2.2.1 x.2.1 x.2.2.1 x.2.2.2.1 x.2.2.2.2.1) n ((over1, ((), ((), ((), ((), (borrow7, (t10, ()))))))), (ob0, (ob1, (ob2, (ob3, ())))))
def p174 (N : Nat) (a0 : Fr) (over1 : UInt64) : Option (Fr × Unit) :=
  Option.bind (p169 N) fun r0 => l174_5 N N over1 ((0 : UInt64)) ((0 : Int)) ([Fr.a0 a0, Fr.a1 a0, Fr.a2 a0, Fr.a3 a0]) ([(0 : UInt64), (0 : UInt64), (0 : UInt64), (0 : UInt64)]) ([Fr.a0 (Prod.fst r0), Fr.a1 (Prod.fst r0), Fr.a2 (Prod.fst r0), Fr.a3 (Prod.fst r0)]) ([(0 : UInt64), (0 : UInt64), (0 : UInt64), (0 : UInt64)])
def g174 (N : Nat) : Sg := sgK [K.fr, K.u64] [K.fr] fun x => p174 N x.1 x.2.1
def tab174 : List (Nat × Head) := [
    (5, ⟨⟨32, [(1, .u (.c (.u64))), (2, .u (.c (.ptr0 6000000 0))), (4, .u (.c (.ptr0 6000001 0))), (5, .u (.c (.ptr0 6000002 0))), (6, .u (.c (.ptr0 6000003 0))), (7, .u (.c (.u64))), (10, .u (.c (.int)))], [(6000000, ⟨false, 4, 53, .vec .u64⟩), (6000001, ⟨false, 4, 53, .vec .u64⟩), (6000002, ⟨false, 4, 53, .vec .u64⟩), (6000003, ⟨false, 4, 53, .vec .u64⟩)]⟩, .exit 0⟩)]
def env174 (N : Nat) : List (Nat × Sg) := [(169, g169 N), (159, sg3 kSub)]
theorem env174_ok (N : Nat) : EnvOK Try.prog pd.els (env174 N) := ⟨g169_ok N, ⟨e159_ok, trivial⟩⟩
theorem g174_ok (N : Nat) : SgOK Try.prog pd.els 174 (g174 N) :=
  sgK_ok pd_ok (env_look (env174_ok N)) Try.func174 (name_ne (by kernel_rfl)) [K.fr, K.u64] [K.fr] _ N tab174 4 fun x => by kernel_rfl
def b172_22 (N : Nat) (A_4 : Int → (List UInt64) → (List UInt64) → (List UInt64) → (List UInt64) → (List UInt64) → Option (Fr × Unit)) (A_22 : UInt64 → UInt64 → UInt64 → UInt64 → Int → Int → (List UInt64) → (List UInt64) → (List UInt64) → (List UInt64) → (List UInt64) → Option (Fr × Unit)) (c8 : UInt64) (top13 : UInt64) (more14 : UInt64) (x15 : UInt64) (j16 : Int) (t18 : Int) (ob0 : List UInt64) (ob1 : List UInt64) (ob2 : List UInt64) (ob3 : List UInt64) (ob4 : List UInt64) : Option (Fr × Unit) :=
  cond (hide (ltI j16 (4 : Int))) (must (leI (0 : Int) j16 && ltI j16 (↑(4 : Nat) : Int)) (Option.bind (p163 N x15 (List.getD ob3 (Int.toNat j16) (0 : UInt64))) fun r1 => must (leI (0 : Int) j16 && ltI j16 (↑(5 : Nat) : Int)) (Option.bind (kAdd (Prod.fst (Prod.snd r1)) (List.getD ob4 (Int.toNat j16) (0 : UInt64)) ((0 : UInt64))) fun r2 => Option.bind (kAdd (Prod.fst r2) c8 ((0 : UInt64))) fun r3 => must (leI (0 : Int) (hide (wr (j16 - (1 : Int)))) && ltI (hide (wr (j16 - (1 : Int)))) (↑(5 : Nat) : Int)) (A_22 (hide (hide (Prod.fst r1 + Prod.snd r2) + Prod.snd r3)) top13 more14 x15 (hide (wr (j16 + (1 : Int)))) t18 ob0 ob1 ob2 ob3 (setL ob4 (Int.toNat (hide (wr (j16 - (1 : Int))))) (Prod.fst r3)))))) (Option.bind (kAdd top13 c8 ((0 : UInt64))) fun r0 => A_4 (hide (wr (t18 + (1 : Int)))) ob0 ob1 ob2 ob3 (setL (setL ob4 (3 : Nat) (Prod.fst r0)) (4 : Nat) (hide (more14 + Prod.snd r0))))
def l172_22 (N : Nat) (A_4 : Int → (List UInt64) → (List UInt64) → (List UInt64) → (List UInt64) → (List UInt64) → Option (Fr × Unit)) (n : Nat) (c8 : UInt64) (top13 : UInt64) (more14 : UInt64) (x15 : UInt64) (j16 : Int) (t18 : Int) (ob0 : List UInt64) (ob1 : List UInt64) (ob2 : List UInt64) (ob3 : List UInt64) (ob4 : List UInt64) : Option (Fr × Unit) :=
  loopN (fun A x => b172_22 N A_4 (fun c8 top13 more14 x15 j16 t18 ob0 ob1 ob2 ob3 ob4 => A (((), ((), ((), ((), ((), (c8, (top13, (more14, (x15, (j16, (t18, ()))))))))))), (ob0, (ob1, (ob2, (ob3, (ob4, ()))))))) x.1.2.2.2.2.2.1 x.1.2.2.2.2.2.2.1 x.1.2.2.2.2.2.2.2.1 x.1.2.2.2.2.2.2.2.2.1 x.1.2.2.2.2.2.2.2.2.2.1 x.1.2.2.2.2.2.2.2.2.2.2.1 x.2.1 x.2.2.1 x.2.2.2.1 x.2.2.2.2.1 x.2.2.2.2.2.1) n (((), ((), ((), ((), ((), (c8, (top13, (more14, (x15, (j16, (t18, ()))))))))))), (ob0, (ob1, (ob2, (ob3, (ob4, ()))))))
def b172_8 (N : Nat) (A_4 : Int → (List UInt64) → (List UInt64) → (List UInt64) → (List UInt64) → (List UInt64) → Option (Fr × Unit)) (A_8 : Int → UInt64 → Int → Int → (List UInt64) → (List UInt64) → (List UInt64) → (List UInt64) → (List UInt64) → Option (Fr × Unit)) (i7 : Int) (c8 : UInt64) (t18 : Int) (t21 : Int) (ob0 : List UInt64) (ob1 : List UInt64) (ob2 : List UInt64) (ob3 : List UInt64) (ob4 : List UInt64) : Option (Fr × Unit) :=
  cond (hide (ltI t21 (4 : Int))) (must (leI (0 : Int) t21 && ltI t21 (↑(4 : Nat) : Int)) (must (leI (0 : Int) i7 && ltI i7 (↑(4 : Nat) : Int)) (Option.bind (p163 N (List.getD ob0 (Int.toNat t21) (0 : UInt64)) (List.getD ob1 (Int.toNat i7) (0 : UInt64))) fun r3 => must (leI (0 : Int) t21 && ltI t21 (↑(5 : Nat) : Int)) (Option.bind (kAdd (Prod.fst (Prod.snd r3)) (List.getD ob4 (Int.toNat t21) (0 : UInt64)) ((0 : UInt64))) fun r4 => Option.bind (kAdd (Prod.fst r4) c8 ((0 : UInt64))) fun r5 => must (leI (0 : Int) t21 && ltI t21 (↑(5 : Nat) : Int)) (A_8 i7 (hide (hide (Prod.fst r3 + Prod.snd r4) + Prod.snd r5)) t18 (hide (wr (t21 + (1 : Int)))) ob0 ob1 ob2 ob3 (setL ob4 (Int.toNat t21) (Prod.fst r5))))))) (Option.bind (kAdd (List.getD ob4 (4 : Nat) (0 : UInt64)) c8 ((0 : UInt64))) fun r0 => Option.bind (p163 N (hide (List.getD ob4 (0 : Nat) (0 : UInt64) * (18446744069414584319 : UInt64))) (List.getD ob3 (0 : Nat) (0 : UInt64))) fun r1 => Option.bind (kAdd (Prod.fst (Prod.snd r1)) (List.getD ob4 (0 : Nat) (0 : UInt64)) ((0 : UInt64))) fun r2 => l172_22 N A_4 N (hide (Prod.fst r1 + Prod.snd r2)) (Prod.fst r0) (Prod.snd r0) (hide (List.getD ob4 (0 : Nat) (0 : UInt64) * (18446744069414584319 : UInt64))) ((1 : Int)) t18 ob0 ob1 ob2 ob3 ob4)
def l172_8 (N : Nat) (A_4 : Int → (List UInt64) → (List UInt64) → (List UInt64) → (List UInt64) → (List UInt64) → Option (Fr × Unit)) (n : Nat) (i7 : Int) (c8 : UInt64) (t18 : Int) (t21 : Int) (ob0 : List UInt64) (ob1 : List UInt64) (ob2 : List UInt64) (ob3 : List UInt64) (ob4 : List UInt64) : Option (Fr × Unit) :=
  loopN (fun A x => b172_8 N A_4 (fun i7 c8 t18 t21 ob0 ob1 ob2 ob3 ob4 => A (((), ((), ((), ((), ((), (i7, (c8, (t18, (t21, ()))))))))), (ob0, (ob1, (ob2, (ob3, (ob4, ()))))))) x.1.2.2.2.2.2.1 x.1.2.2.2.2.2.2.1 x.1.2.2.2.2.2.2.2.1 x.1.2.2.2.2.2.2.2.2.1 x.2.1 x.2.2.1 x.2.2.2.1 x.2.2.2.2.1 x.2.2.2.2.2.1) n (((), ((), ((), ((), ((), (i7, (c8, (t18, (t21, ()))))))))), (ob0, (ob1, (ob2, (ob3, (ob4, ()))))))
def b172_4 (N : Nat) (A_4 : Int → (List UInt64) → (List UInt64) → (List UInt64) → (List UInt64) → (List UInt64) → Option (Fr × Unit)) (t18 : Int) (ob0 : List UInt64) (ob1 : List UInt64) (ob2 : List UInt64) (ob3 : List UInt64) (ob4 : List UInt64) : Option (Fr × Unit) :=
  cond (hide (ltI t18 (4 : Int))) (l172_8 N A_4 N t18 ((0 : UInt64)) t18 ((0 : Int)) ob0 ob1 ob2 ob3 ob4) (must (leN (Int.toNat (0 : Int) + (4 : Nat)) (List.length ob4)) (Option.bind (Option.bind (Option.bind (Fr.of? (List.take (4 : Nat) ob4)) fun r0 => some ((r0, List.getD ob4 (4 : Nat) (0 : UInt64), ()))) fun r1 => p174 N (Prod.fst r1) (Prod.fst (Prod.snd r1))) fun r2 => some (({ a0 := Fr.a0 (Prod.fst r2), a1 := Fr.a1 (Prod.fst r2), a2 := Fr.a2 (Prod.fst r2), a3 := Fr.a3 (Prod.fst r2) }, ()))))
def l172_4 (N : Nat) (n : Nat) (t18 : Int) (ob0 : List UInt64) (ob1 : List UInt64) (ob2 : List UInt64) (ob3 : List UInt64) (ob4 : List UInt64) : Option (Fr × Unit) :=
  loopN (fun A x => b172_4 N (fun t18 ob0 ob1 ob2 ob3 ob4 => A (((), ((), ((), ((), ((), (t18, ())))))), (ob0, (ob1, (ob2, (ob3, (ob4, ()))))))) x.1.2.2.2.2.2.1 x.2.1 x.2.2.1 x.2.2.2.1 x.2.2.2.2.1 x.2.2.2.2.2.1) n (((), ((), ((), ((), ((), (t18, ())))))), (ob0, (ob1, (ob2, (ob3, (ob4, ()))))))
def p172 (N : Nat) (a0 : Fr) (b1 : Fr) : Option (Fr × Unit) :=
  Option.bind (p169 N) fun r0 => l172_4 N N ((0 : Int)) ([Fr.a0 a0, Fr.a1 a0, Fr.a2 a0, Fr.a3 a0]) ([Fr.a0 b1, Fr.a1 b1, Fr.a2 b1, Fr.a3 b1]) ([(0 : UInt64), (0 : UInt64), (0 : UInt64), (0 : UInt64)]) ([Fr.a0 (Prod.fst r0), Fr.a1 (Prod.fst r0), Fr.a2 (Prod.fst r0), Fr.a3 (Prod.fst r0)]) ([(0 : UInt64), (0 : UInt64), (0 : UInt64), (0 : UInt64), (0 : UInt64)])
def g172 (N : Nat) : Sg := sgK [K.fr, K.fr] [K.fr] fun x => p172 N x.1 x.2.1
def tab172 : List (Nat × Head) := [
    (4, ⟨⟨139, [(2, .u (.c (.ptr0 5000000 0))), (3, .u (.c (.ptr0 5000001 0))), (4, .u (.c (.ptr0 5000002 0))), (5, .u (.c (.ptr0 5000003 0))), (6, .u (.c (.ptr0 5000004 0))), (18, .u (.c (.int)))], [(5000000, ⟨false, 4, 53, .vec .u64⟩), (5000001, ⟨false, 4, 53, .vec .u64⟩), (5000002, ⟨false, 4, 53, .vec .u64⟩), (5000003, ⟨false, 4, 53, .vec .u64⟩), (5000004, ⟨false, 5, 206, .vec .u64⟩)]⟩, .exit 0⟩),
    (8, ⟨⟨139, [(2, .u (.c (.ptr0 9000000 0))), (3, .u (.c (.ptr0 9000001 0))), (4, .u (.c (.ptr0 9000002 0))), (5, .u (.c (.ptr0 9000003 0))), (6, .u (.c (.ptr0 9000004 0))), (7, .u (.c (.int))), (8, .u (.c (.u64))), (18, .u (.c (.int))), (21, .u (.c (.int)))], [(9000000, ⟨false, 4, 53, .vec .u64⟩), (9000001, ⟨false, 4, 53, .vec .u64⟩), (9000002, ⟨false, 4, 53, .vec .u64⟩), (9000003, ⟨false, 4, 53, .vec .u64⟩), (9000004, ⟨false, 5, 206, .vec .u64⟩)]⟩, .exit 2⟩),
    (22, ⟨⟨139, [(2, .u (.c (.ptr0 23000000 0))), (3, .u (.c (.ptr0 23000001 0))), (4, .u (.c (.ptr0 23000002 0))), (5, .u (.c (.ptr0 23000003 0))), (6, .u (.c (.ptr0 23000004 0))), (8, .u (.c (.u64))), (13, .u (.c (.u64))), (14, .u (.c (.u64))), (15, .u (.c (.u64))), (16, .u (.c (.int))), (18, .u (.c (.int)))], [(23000000, ⟨false, 4, 53, .vec .u64⟩), (23000001, ⟨false, 4, 53, .vec .u64⟩), (23000002, ⟨false, 4, 53, .vec .u64⟩), (23000003, ⟨false, 4, 53, .vec .u64⟩), (23000004, ⟨false, 5, 206, .vec .u64⟩)]⟩, .exit 4⟩)]
def env172 (N : Nat) : List (Nat × Sg) := [(169, g169 N), (163, g163 N), (164, sg3 kAdd), (174, g174 N)]
theorem env172_ok (N : Nat) : EnvOK Try.prog pd.els (env172 N) := ⟨g169_ok N, ⟨g163_ok N, ⟨e164_ok, ⟨g174_ok N, trivial⟩⟩⟩⟩
theorem g172_ok (N : Nat) : SgOK Try.prog pd.els 172 (g172 N) :=
  sgK_ok pd_ok (env_look (env172_ok N)) Try.func172 (name_ne (by kernel_rfl)) [K.fr, K.fr] [K.fr] _ N tab172 4 fun x => by kernel_rfl
def p170 (N : Nat) (a0 : Fr) : Option (Fr × Unit) :=
  Option.bind (p213 N) fun r0 => Option.bind (p172 N ({ a0 := Fr.a0 a0, a1 := Fr.a1 a0, a2 := Fr.a2 a0, a3 := Fr.a3 a0 }) ({ a0 := Fr.a0 (Prod.fst r0), a1 := Fr.a1 (Prod.fst r0), a2 := Fr.a2 (Prod.fst r0), a3 := Fr.a3 (Prod.fst r0) })) fun r1 => some (({ a0 := Fr.a0 (Prod.fst r1), a1 := Fr.a1 (Prod.fst r1), a2 := Fr.a2 (Prod.fst r1), a3 := Fr.a3 (Prod.fst r1) }, ()))
def g170 (N : Nat) : Sg := sgK [K.fr] [K.fr] fun x => p170 N x.1
def tab170 : List (Nat × Head) := [
    ]
def env170 (N : Nat) : List (Nat × Sg) := [(213, g213 N), (172, g172 N)]
theorem env170_ok (N : Nat) : EnvOK Try.prog pd.els (env170 N) := ⟨g213_ok N, ⟨g172_ok N, trivial⟩⟩
theorem g170_ok (N : Nat) : SgOK Try.prog pd.els 170 (g170 N) :=
  sgK_ok pd_ok (env_look (env170_ok N)) Try.func170 (name_ne (by kernel_rfl)) [K.fr] [K.fr] _ N tab170 4 fun x => by kernel_rfl
def p171 (N : Nat) (a0 : Fr) : Option (Fr × Unit) :=
  Option.bind (p172 N ({ a0 := Fr.a0 a0, a1 := Fr.a1 a0, a2 := Fr.a2 a0, a3 := Fr.a3 a0 }) ({ a0 := (1 : UInt64), a1 := (0 : UInt64), a2 := (0 : UInt64), a3 := (0 : UInt64) })) fun r0 => some (({ a0 := Fr.a0 (Prod.fst r0), a1 := Fr.a1 (Prod.fst r0), a2 := Fr.a2 (Prod.fst r0), a3 := Fr.a3 (Prod.fst r0) }, ()))
def g171 (N : Nat) : Sg := sgK [K.fr] [K.fr] fun x => p171 N x.1
def tab171 : List (Nat × Head) := [
    ]
def env171 (N : Nat) : List (Nat × Sg) := [(172, g172 N)]
theorem env171_ok (N : Nat) : EnvOK Try.prog pd.els (env171 N) := ⟨g172_ok N, trivial⟩
theorem g171_ok (N : Nat) : SgOK Try.prog pd.els 171 (g171 N) :=
  sgK_ok pd_ok (env_look (env171_ok N)) Try.func171 (name_ne (by kernel_rfl)) [K.fr] [K.fr] _ N tab171 4 fun x => by kernel_rfl
def b72_1000 (N : Nat) (A_1000 : (List UInt64) → Int → (List UInt64) → (List UInt64) → (List UInt64) → Option (Fr × Unit)) (e1 : List UInt64) (i7 : Int) (ob0 : List UInt64) (ob1 : List UInt64) (ob2 : List UInt64) : Option (Fr × Unit) :=
  cond (hide (ltI (hide (wr (i7 - (1 : Int)))) (0 : Int))) (Option.bind (Option.bind (Option.bind (Fr.of? ob2) fun r9 => some ((r9, ()))) fun r10 => p171 N (Prod.fst r10)) fun r11 => some (({ a0 := Fr.a0 (Prod.fst r11), a1 := Fr.a1 (Prod.fst r11), a2 := Fr.a2 (Prod.fst r11), a3 := Fr.a3 (Prod.fst r11) }, ()))) (Option.bind (Option.bind (Option.bind (Fr.of? ob2) fun r0 => Option.bind (Option.bind (Fr.of? ob2) fun r1 => some ((r1, ()))) fun r2 => some ((r0, r2))) fun r3 => p172 N (Prod.fst r3) (Prod.fst (Prod.snd r3))) fun r4 => must (leI (0 : Int) (hide (wr (Int.tdiv (hide (wr (i7 - (1 : Int)))) (64 : Int)))) && ltI (hide (wr (Int.tdiv (hide (wr (i7 - (1 : Int)))) (64 : Int)))) (↑(List.length e1) : Int)) (cond (hide (hide (hide (shr64 (List.getD e1 (Int.toNat (hide (wr (Int.tdiv (hide (wr (i7 - (1 : Int)))) (64 : Int))))) (0 : UInt64)) (UInt64.toNat (hide (u64I (hide (Int.tmod (hide (wr (i7 - (1 : Int)))) (64 : Int))))))) &&& (1 : UInt64)) == (1 : UInt64))) (Option.bind (Option.bind (Option.bind (Option.bind (Fr.of? ob1) fun r5 => some ((r5, ()))) fun r6 => some (({ a0 := Fr.a0 (Prod.fst r4), a1 := Fr.a1 (Prod.fst r4), a2 := Fr.a2 (Prod.fst r4), a3 := Fr.a3 (Prod.fst r4) }, r6))) fun r7 => p172 N (Prod.fst r7) (Prod.fst (Prod.snd r7))) fun r8 => A_1000 e1 (hide (wr (i7 - (1 : Int)))) ob0 ob1 ([Fr.a0 (Prod.fst r8), Fr.a1 (Prod.fst r8), Fr.a2 (Prod.fst r8), Fr.a3 (Prod.fst r8)])) (A_1000 e1 (hide (wr (i7 - (1 : Int)))) ob0 ob1 ([Fr.a0 (Prod.fst r4), Fr.a1 (Prod.fst r4), Fr.a2 (Prod.fst r4), Fr.a3 (Prod.fst r4)]))))
def l72_1000 (N : Nat) (n : Nat) (e1 : List UInt64) (i7 : Int) (ob0 : List UInt64) (ob1 : List UInt64) (ob2 : List UInt64) : Option (Fr × Unit) :=
  loopN (fun A x => b72_1000 N (fun e1 i7 ob0 ob1 ob2 => A ((e1, ((), ((), ((), (i7, ()))))), (ob0, (ob1, (ob2, ()))))) x.1.1 x.1.2.2.2.2.1 x.2.1 x.2.2.1 x.2.2.2.1) n ((e1, ((), ((), ((), (i7, ()))))), (ob0, (ob1, (ob2, ()))))
def p72 (N : Nat) (a0 : Fr) (e1 : List UInt64) : Option (Fr × Unit) :=
  Option.bind (p170 N ({ a0 := Fr.a0 a0, a1 := Fr.a1 a0, a2 := Fr.a2 a0, a3 := Fr.a3 a0 })) fun r0 => Option.bind (p170 N ({ a0 := (1 : UInt64), a1 := (0 : UInt64), a2 := (0 : UInt64), a3 := (0 : UInt64) })) fun r1 => l72_1000 N N e1 (hide (wr ((64 : Int) * (↑(List.length e1) : Int)))) ([(0 : UInt64), (0 : UInt64), (0 : UInt64), (0 : UInt64)]) ([Fr.a0 (Prod.fst r0), Fr.a1 (Prod.fst r0), Fr.a2 (Prod.fst r0), Fr.a3 (Prod.fst r0)]) ([Fr.a0 (Prod.fst r1), Fr.a1 (Prod.fst r1), Fr.a2 (Prod.fst r1), Fr.a3 (Prod.fst r1)])
def g72 (N : Nat) : Sg := sgK [K.fr, (K.ro .u64)] [K.fr] fun x => p72 N x.1 x.2.1
def tab72 : List (Nat × Head) := [
    (1000, ⟨⟨38, [(1, .u (.c (.ro .u64))), (4, .u (.c (.ptr0 1001000000 0))), (5, .u (.c (.ptr0 1001000001 0))), (6, .u (.c (.ptr0 1001000002 0))), (7, .u (.c (.int)))], [(1001000000, ⟨false, 4, 53, .vec .u64⟩), (1001000001, ⟨false, 4, 53, .vec .u64⟩), (1001000002, ⟨false, 4, 53, .vec .u64⟩)]⟩, .fall⟩)]
def env72 (N : Nat) : List (Nat × Sg) := [(170, g170 N), (171, g171 N), (172, g172 N)]
theorem env72_ok (N : Nat) : EnvOK Try.prog pd.els (env72 N) := ⟨g170_ok N, ⟨g171_ok N, ⟨g172_ok N, trivial⟩⟩⟩
theorem g72_ok (N : Nat) : SgOK Try.prog pd.els 72 (g72 N) :=
  sgK_ok pd_ok (env_look (env72_ok N)) Try.func72 (name_ne (by kernel_rfl)) [K.fr, (K.ro .u64)] [K.fr] _ N tab72 4 fun x => by kernel_rfl
def b77_9 (N : Nat) (A_6 : Int → Int → (List UInt64) → (List UInt64) → Option (Fr × Int × Unit)) (A_9 : UInt64 → Int → Int → Int → (List UInt64) → (List UInt64) → Option (Fr × Int × Unit)) (over5 : UInt64) (i6 : Int) (t19 : Int) (t20 : Int) (ob0 : List UInt64) (ob1 : List UInt64) : Option (Fr × Int × Unit) :=
  cond (hide (leI (0 : Int) i6)) (must (leI (0 : Int) i6 && ltI i6 (↑(4 : Nat) : Int)) (must (leI (0 : Int) i6 && ltI i6 (↑(4 : Nat) : Int)) (must (leI (0 : Int) i6 && ltI i6 (↑(4 : Nat) : Int)) (A_9 (hide (shl64 (List.getD ob1 (Int.toNat i6) (0 : UInt64)) (UInt64.toNat (63 : UInt64)))) (hide (wr (i6 - (1 : Int)))) t19 t20 ob0 (setL ob1 (Int.toNat i6) (hide (hide (shr64 (List.getD ob1 (Int.toNat i6) (0 : UInt64)) (UInt64.toNat (1 : UInt64))) ||| over5))))))) (A_6 t19 (hide (wr (t20 + (1 : Int)))) ob0 ob1)
def l77_9 (N : Nat) (A_6 : Int → Int → (List UInt64) → (List UInt64) → Option (Fr × Int × Unit)) (n : Nat) (over5 : UInt64) (i6 : Int) (t19 : Int) (t20 : Int) (ob0 : List UInt64) (ob1 : List UInt64) : Option (Fr × Int × Unit) :=
  loopN (fun A x => b77_9 N A_6 (fun over5 i6 t19 t20 ob0 ob1 => A (((), ((), (over5, (i6, (t19, (t20, ())))))), (ob0, (ob1, ())))) x.1.2.2.1 x.1.2.2.2.1 x.1.2.2.2.2.1 x.1.2.2.2.2.2.1 x.2.1 x.2.2.1) n (((), ((), (over5, (i6, (t19, (t20, ())))))), (ob0, (ob1, ())))
def b77_6 (N : Nat) (A_6 : Int → Int → (List UInt64) → (List UInt64) → Option (Fr × Int × Unit)) (t19 : Int) (t20 : Int) (ob0 : List UInt64) (ob1 : List UInt64) : Option (Fr × Int × Unit) :=
  cond (hide (ltI t20 t19)) (l77_9 N A_6 N ((0 : UInt64)) ((3 : Int)) t19 t20 ob0 ob1) (Option.bind (p75 N ((7 : UInt64))) fun r0 => Option.bind (p72 N ({ a0 := Fr.a0 (Prod.fst r0), a1 := Fr.a1 (Prod.fst r0), a2 := Fr.a2 (Prod.fst r0), a3 := Fr.a3 (Prod.fst r0) }) (List.take (Int.toNat ((↑(4 : Nat) : Int) - (0 : Int))) ob1)) fun r1 => some (({ a0 := Fr.a0 (Prod.fst r1), a1 := Fr.a1 (Prod.fst r1), a2 := Fr.a2 (Prod.fst r1), a3 := Fr.a3 (Prod.fst r1) }, (0 : Int), ())))
def l77_6 (N : Nat) (n : Nat) (t19 : Int) (t20 : Int) (ob0 : List UInt64) (ob1 : List UInt64) : Option (Fr × Int × Unit) :=
  loopN (fun A x => b77_6 N (fun t19 t20 ob0 ob1 => A (((), ((), (t19, (t20, ())))), (ob0, (ob1, ())))) x.1.2.2.1 x.1.2.2.2.1 x.2.1 x.2.2.1) n (((), ((), (t19, (t20, ())))), (ob0, (ob1, ())))
def p77 (N : Nat) (log0 : Int) : Option (Fr × Int × Unit) :=
  cond (hide (ltI log0 (0 : Int))) (some (({ a0 := (0 : UInt64), a1 := (0 : UInt64), a2 := (0 : UInt64), a3 := (0 : UInt64) }, (1 : Int), ()))) (cond (hide (ltI (32 : Int) log0)) (some (({ a0 := (0 : UInt64), a1 := (0 : UInt64), a2 := (0 : UInt64), a3 := (0 : UInt64) }, (1 : Int), ()))) (Option.bind (p169 N) fun r0 => l77_6 N N log0 ((0 : Int)) ([(0 : UInt64), (0 : UInt64), (0 : UInt64), (0 : UInt64)]) (setL [Fr.a0 (Prod.fst r0), Fr.a1 (Prod.fst r0), Fr.a2 (Prod.fst r0), Fr.a3 (Prod.fst r0)] (0 : Nat) (hide (Fr.a0 (Prod.fst r0) - (1 : UInt64))))))
def g77 (N : Nat) : Sg := sgK [K.int] [K.fr, K.int] fun x => p77 N x.1
def tab77 : List (Nat × Head) := [
    (6, ⟨⟨42, [(2, .u (.c (.ptr0 7000000 0))), (4, .u (.c (.ptr0 7000001 0))), (19, .u (.c (.int))), (20, .u (.c (.int)))], [(7000000, ⟨false, 4, 53, .vec .u64⟩), (7000001, ⟨false, 4, 53, .vec .u64⟩)]⟩, .exit 0⟩),
    (9, ⟨⟨42, [(2, .u (.c (.ptr0 10000000 0))), (4, .u (.c (.ptr0 10000001 0))), (5, .u (.c (.u64))), (6, .u (.c (.int))), (19, .u (.c (.int))), (20, .u (.c (.int)))], [(10000000, ⟨false, 4, 53, .vec .u64⟩), (10000001, ⟨false, 4, 53, .vec .u64⟩)]⟩, .exit 2⟩)]
def env77 (N : Nat) : List (Nat × Sg) := [(169, g169 N), (75, g75 N), (72, g72 N)]
theorem env77_ok (N : Nat) : EnvOK Try.prog pd.els (env77 N) := ⟨g169_ok N, ⟨g75_ok N, ⟨g72_ok N, trivial⟩⟩⟩
theorem g77_ok (N : Nat) : SgOK Try.prog pd.els 77 (g77 N) :=
  sgK_ok pd_ok (env_look (env77_ok N)) Try.func77 (name_ne (by kernel_rfl)) [K.int] [K.fr, K.int] _ N tab77 4 fun x => by kernel_rfl
def p76 (N : Nat) (a0 : Fr) (b1 : Fr) : Option (Fr × Unit) :=
  Option.bind (p172 N ({ a0 := Fr.a0 a0, a1 := Fr.a1 a0, a2 := Fr.a2 a0, a3 := Fr.a3 a0 }) ({ a0 := Fr.a0 b1, a1 := Fr.a1 b1, a2 := Fr.a2 b1, a3 := Fr.a3 b1 })) fun r0 => Option.bind (p170 N ({ a0 := Fr.a0 (Prod.fst r0), a1 := Fr.a1 (Prod.fst r0), a2 := Fr.a2 (Prod.fst r0), a3 := Fr.a3 (Prod.fst r0) })) fun r1 => some (({ a0 := Fr.a0 (Prod.fst r1), a1 := Fr.a1 (Prod.fst r1), a2 := Fr.a2 (Prod.fst r1), a3 := Fr.a3 (Prod.fst r1) }, ()))
def g76 (N : Nat) : Sg := sgK [K.fr, K.fr] [K.fr] fun x => p76 N x.1 x.2.1
def tab76 : List (Nat × Head) := [
    ]
def env76 (N : Nat) : List (Nat × Sg) := [(172, g172 N), (170, g170 N)]
theorem env76_ok (N : Nat) : EnvOK Try.prog pd.els (env76 N) := ⟨g172_ok N, ⟨g170_ok N, trivial⟩⟩
theorem g76_ok (N : Nat) : SgOK Try.prog pd.els 76 (g76 N) :=
  sgK_ok pd_ok (env_look (env76_ok N)) Try.func76 (name_ne (by kernel_rfl)) [K.fr, K.fr] [K.fr] _ N tab76 4 fun x => by kernel_rfl
def p79 (N : Nat) (a0 : Fr) : Option (Bool × Unit) :=
  Option.bind (p169 N) fun r0 => Option.bind (p61 N (List.take (Int.toNat ((↑(4 : Nat) : Int) - (0 : Int))) [Fr.a0 a0, Fr.a1 a0, Fr.a2 a0, Fr.a3 a0]) (List.take (Int.toNat ((↑(4 : Nat) : Int) - (0 : Int))) [Fr.a0 (Prod.fst r0), Fr.a1 (Prod.fst r0), Fr.a2 (Prod.fst r0), Fr.a3 (Prod.fst r0)])) fun r1 => some ((hide (ltI (Prod.fst r1) (0 : Int)), ()))
def g79 (N : Nat) : Sg := sgK [K.fr] [K.bool] fun x => p79 N x.1
def tab79 : List (Nat × Head) := [
    ]
def env79 (N : Nat) : List (Nat × Sg) := [(169, g169 N), (61, g61 N)]
theorem env79_ok (N : Nat) : EnvOK Try.prog pd.els (env79 N) := ⟨g169_ok N, ⟨g61_ok N, trivial⟩⟩
theorem g79_ok (N : Nat) : SgOK Try.prog pd.els 79 (g79 N) :=
  sgK_ok pd_ok (env_look (env79_ok N)) Try.func79 (name_ne (by kernel_rfl)) [K.fr] [K.bool] _ N tab79 4 fun x => by kernel_rfl
def p88 (N : Nat) : Option (List UInt64 × Unit) :=
  some (([(18446744069414584321 : UInt64), (6034159408538082302 : UInt64), (3691218898639771653 : UInt64), (8353516859464449352 : UInt64)], ()))
def g88 (N : Nat) : Sg := sgK [] [(K.ro .u64)] fun x => p88 N
def tab88 : List (Nat × Head) := [
    ]
def env88 (N : Nat) : List (Nat × Sg) := []
theorem env88_ok (N : Nat) : EnvOK Try.prog pd.els (env88 N) := trivial
theorem g88_ok (N : Nat) : SgOK Try.prog pd.els 88 (g88 N) :=
  sgK_ok pd_ok (env_look (env88_ok N)) Try.func88 (name_ne (by kernel_rfl)) [] [(K.ro .u64)] _ N tab88 4 fun x => by kernel_rfl
def b168_2 (N : Nat) (A_2 : (List UInt64) → (List UInt64) → Int → Option (Bool × Unit)) (a0 : List UInt64) (m1 : List UInt64) (i5 : Int) : Option (Bool × Unit) :=
  cond (hide (leI (0 : Int) i5)) (must (leI (0 : Int) i5 && ltI i5 (↑(List.length a0) : Int)) (must (leI (0 : Int) i5 && ltI i5 (↑(List.length m1) : Int)) (cond (hide !List.getD a0 (Int.toNat i5) (0 : UInt64) == List.getD m1 (Int.toNat i5) (0 : UInt64)) (must (leI (0 : Int) i5 && ltI i5 (↑(List.length a0) : Int)) (must (leI (0 : Int) i5 && ltI i5 (↑(List.length m1) : Int)) (some ((hide (ltN (UInt64.toNat (List.getD a0 (Int.toNat i5) (0 : UInt64))) (UInt64.toNat (List.getD m1 (Int.toNat i5) (0 : UInt64)))), ()))))) (A_2 a0 m1 (hide (wr (i5 - (1 : Int)))))))) (some ((false, ())))
def l168_2 (N : Nat) (n : Nat) (a0 : List UInt64) (m1 : List UInt64) (i5 : Int) : Option (Bool × Unit) :=
  loopN (fun A x => b168_2 N (fun a0 m1 i5 => A ((a0, (m1, (i5, ()))), ())) x.1.1 x.1.2.1 x.1.2.2.1) n ((a0, (m1, (i5, ()))), ())
def p168 (N : Nat) (a0 : List UInt64) (m1 : List UInt64) : Option (Bool × Unit) :=
  l168_2 N N a0 m1 (hide (wr ((↑(List.length m1) : Int) - (1 : Int))))
def g168 (N : Nat) : Sg := sgK [(K.ro .u64), (K.ro .u64)] [K.bool] fun x => p168 N x.1 x.2.1
def tab168 : List (Nat × Head) := [
    (2, ⟨⟨31, [(0, .u (.c (.ro .u64))), (1, .u (.c (.ro .u64))), (5, .u (.c (.int)))], []⟩, .exit 0⟩)]
def env168 (N : Nat) : List (Nat × Sg) := []
theorem env168_ok (N : Nat) : EnvOK Try.prog pd.els (env168 N) := trivial
theorem g168_ok (N : Nat) : SgOK Try.prog pd.els 168 (g168 N) :=
  sgK_ok pd_ok (env_look (env168_ok N)) Try.func168 (name_ne (by kernel_rfl)) [(K.ro .u64), (K.ro .u64)] [K.bool] _ N tab168 4 fun x => by kernel_rfl
def p69 (N : Nat) (a0 : Fr) : Option (Bool × Unit) :=
  Option.bind (p88 N) fun r0 => Option.bind (p168 N (List.take (Int.toNat ((↑(4 : Nat) : Int) - (0 : Int))) [Fr.a0 a0, Fr.a1 a0, Fr.a2 a0, Fr.a3 a0]) (Prod.fst r0)) fun r1 => some ((Prod.fst r1, ()))
def g69 (N : Nat) : Sg := sgK [K.fr] [K.bool] fun x => p69 N x.1
def tab69 : List (Nat × Head) := [
    ]
def env69 (N : Nat) : List (Nat × Sg) := [(88, g88 N), (168, g168 N)]
theorem env69_ok (N : Nat) : EnvOK Try.prog pd.els (env69 N) := ⟨g88_ok N, ⟨g168_ok N, trivial⟩⟩
theorem g69_ok (N : Nat) : SgOK Try.prog pd.els 69 (g69 N) :=
  sgK_ok pd_ok (env_look (env69_ok N)) Try.func69 (name_ne (by kernel_rfl)) [K.fr] [K.bool] _ N tab69 4 fun x => by kernel_rfl
def p173 (N : Nat) (n0 : UInt64) : Option (Fr × Unit) :=
  some (({ a0 := n0, a1 := (0 : UInt64), a2 := (0 : UInt64), a3 := (0 : UInt64) }, ()))
def g173 (N : Nat) : Sg := sgK [K.u64] [K.fr] fun x => p173 N x.1
def tab173 : List (Nat × Head) := [
    ]
def env173 (N : Nat) : List (Nat × Sg) := []
theorem env173_ok (N : Nat) : EnvOK Try.prog pd.els (env173 N) := trivial
theorem g173_ok (N : Nat) : SgOK Try.prog pd.els 173 (g173 N) :=
  sgK_ok pd_ok (env_look (env173_ok N)) Try.func173 (name_ne (by kernel_rfl)) [K.u64] [K.fr] _ N tab173 4 fun x => by kernel_rfl
end Go.Proofs.Ytgimohchocjgcaa.V
