import Derived.Test.YtgimohchocjgcaaVTM
import Derived.KernelRfl
set_option linter.unusedVariables false
set_option linter.unusedSimpArgs false
namespace Go.Proofs.Ytgimohchocjgcaa.V
section
def p75 (N : Nat) (n0 : UInt64) : Option (Fr × Unit) :=
  some (({ a0 := n0, a1 := (0 : UInt64), a2 := (0 : UInt64), a3 := (0 : UInt64) }, ()))
def g75 (N : Nat) : Sg := sgK [K.u64] [K.fr] fun x => p75 N x.1
def zz5 : List (Nat × Head) := [
    ]
def zz6 (N : Nat) : List (Nat × Sg) := []
theorem zsl (N : Nat) : zaS Try.prog pd.els (zz6 N) := trivial
theorem zo4 (N : Nat) : SgOK Try.prog pd.els 75 (g75 N) :=
  zaE zaU (zai (zsl N)) Try.func75 (zat (by kernel_rfl)) [K.u64] [K.fr] _ N zz5 4 fun x => by kernel_rfl
def p169 (N : Nat) : Option (Fr × Unit) :=
  some (({ a0 := (18446744069414584321 : UInt64), a1 := (6034159408538082302 : UInt64), a2 := (3691218898639771653 : UInt64), a3 := (8353516859464449352 : UInt64) }, ()))
def g169 (N : Nat) : Sg := sgK [] [K.fr] fun x => p169 N
def zw2 : List (Nat × Head) := [
    ]
def zw3 (N : Nat) : List (Nat × Sg) := []
theorem zo5 (N : Nat) : zaS Try.prog pd.els (zw3 N) := trivial
theorem ziJ (N : Nat) : SgOK Try.prog pd.els 169 (g169 N) :=
  zaE zaU (zai (zo5 N)) Try.func169 (zat (by kernel_rfl)) [] [K.fr] _ N zw2 4 fun x => by kernel_rfl
def p213 (N : Nat) : Option (Fr × Unit) :=
  some (({ a0 := (14526898881837571181 : UInt64), a1 := (3129137299524312099 : UInt64), a2 := (419701826671360399 : UInt64), a3 := (524908885293268753 : UInt64) }, ()))
def g213 (N : Nat) : Sg := sgK [] [K.fr] fun x => p213 N
def zw4 : List (Nat × Head) := [
    ]
def zw5 (N : Nat) : List (Nat × Sg) := []
theorem zo6 (N : Nat) : zaS Try.prog pd.els (zw5 N) := trivial
theorem zu9 (N : Nat) : SgOK Try.prog pd.els 213 (g213 N) :=
  zaE zaU (zai (zo6 N)) Try.func213 (zat (by kernel_rfl)) [] [K.fr] _ N zw4 4 fun x => by kernel_rfl
def zo7 (N : Nat) (A_5 : UInt64 -> UInt64 -> Int -> (List UInt64) -> (List UInt64) -> (List UInt64) -> (List UInt64) -> Option (Fr × Unit)) (over1 borrow7 : UInt64) (t10 : Int) (ob0 ob1 ob2 ob3 : List UInt64) : Option (Fr × Unit) :=
  cond (hide (ltI t10 (4 : Int))) (must (leI (0 : Int) t10 && ltI t10 (↑(4 : Nat) : Int)) (must (leI (0 : Int) t10 && ltI t10 (↑(4 : Nat) : Int)) (Option.bind (kSub (List.getD ob0 t10.toNat (0 : UInt64)) (List.getD ob2 t10.toNat (0 : UInt64)) borrow7) fun r2 => must (leI (0 : Int) t10 && ltI t10 (↑(4 : Nat) : Int)) (A_5 over1 r2.2 (hide (wr (t10 + (1 : Int)))) ob0 ob1 ob2 (setL ob3 t10.toNat r2.1))))) (cond (hide (ltN over1.toNat borrow7.toNat)) (must (Nat.beq ob0.length (4 : Nat)) (Option.bind (Fr.of? ob0) fun r1 => some ((r1, ())))) (must (Nat.beq ob3.length (4 : Nat)) (Option.bind (Fr.of? ob3) fun r0 => some ((r0, ())))))
def zo8 (N n : Nat) (over1 borrow7 : UInt64) (t10 : Int) (ob0 ob1 ob2 ob3 : List UInt64) : Option (Fr × Unit) :=
  zao (fun A x => zo7 N (fun over1 borrow7 t10 ob0 ob1 ob2 ob3 => A ((over1, ((), ((), ((), ((), (borrow7, (t10, ()))))))), (ob0, (ob1, (ob2, (ob3, ())))))) x.1.1 x.1.2.2.2.2.2.1 x.1.2.2.2.2.2.2.1 x.2.1 x.2.2.1 x.2.2.2.1 x.2.2.2.2.1) n ((over1, ((), ((), ((), ((), (borrow7, (t10, ()))))))), (ob0, (ob1, (ob2, (ob3, ())))))
def p174 (N : Nat) (a0 : Fr) (over1 : UInt64) : Option (Fr × Unit) :=
  Option.bind (p169 N) fun r0 => zo8 N N over1 (0 : UInt64) (0 : Int) ([Fr.a0 a0, Fr.a1 a0, Fr.a2 a0, Fr.a3 a0]) ([(0 : UInt64), (0 : UInt64), (0 : UInt64), (0 : UInt64)]) ([Fr.a0 r0.1, Fr.a1 r0.1, Fr.a2 r0.1, Fr.a3 r0.1]) ([(0 : UInt64), (0 : UInt64), (0 : UInt64), (0 : UInt64)])
def g174 (N : Nat) : Sg := sgK [K.fr, K.u64] [K.fr] fun x => p174 N x.1 x.2.1
def zw6 : List (Nat × Head) := [
    (5, ⟨⟨32, [(1, .u (.c (.u64))), (2, .u (.c (.ptr0 6000000 0))), (4, .u (.c (.ptr0 6000001 0))), (5, .u (.c (.ptr0 6000002 0))), (6, .u (.c (.ptr0 6000003 0))), (7, .u (.c (.u64))), (10, .u (.c (.int)))], [(6000000, ⟨false, 4, 53, .vec .u64⟩), (6000001, ⟨false, 4, 53, .vec .u64⟩), (6000002, ⟨false, 4, 53, .vec .u64⟩), (6000003, ⟨false, 4, 53, .vec .u64⟩)]⟩, .exit 0⟩)]
def zw7 (N : Nat) : List (Nat × Sg) := [(169, g169 N), (159, sg3 kSub)]
theorem zo9 (N : Nat) : zaS Try.prog pd.els (zw7 N) := ⟨ziJ N, ⟨zkV, trivial⟩⟩
theorem zva (N : Nat) : SgOK Try.prog pd.els 174 (g174 N) :=
  zaE zaU (zai (zo9 N)) Try.func174 (zat (by kernel_rfl)) [K.fr, K.u64] [K.fr] _ N zw6 4 fun x => by kernel_rfl
def zkW (N : Nat) (A_4 : Int -> (List UInt64) -> (List UInt64) -> (List UInt64) -> (List UInt64) -> (List UInt64) -> Option (Fr × Unit)) (A_22 : UInt64 -> UInt64 -> UInt64 -> UInt64 -> Int -> Int -> (List UInt64) -> (List UInt64) -> (List UInt64) -> (List UInt64) -> (List UInt64) -> Option (Fr × Unit)) (c8 top13 more14 x15 : UInt64) (j16 t18 : Int) (ob0 ob1 ob2 ob3 ob4 : List UInt64) : Option (Fr × Unit) :=
  let u1 := hide (wr (j16 - (1 : Int)))
  cond (hide (ltI j16 (4 : Int))) (must (leI (0 : Int) j16 && ltI j16 (↑(4 : Nat) : Int)) (Option.bind (p163 N x15 (List.getD ob3 j16.toNat (0 : UInt64))) fun r1 => must (leI (0 : Int) j16 && ltI j16 (↑(5 : Nat) : Int)) (Option.bind (kAdd (r1.2.1) (List.getD ob4 j16.toNat (0 : UInt64)) (0 : UInt64)) fun r2 => Option.bind (kAdd r2.1 c8 (0 : UInt64)) fun r3 => must (leI (0 : Int) u1 && ltI u1 (↑(5 : Nat) : Int)) (A_22 (hide (hide (Prod.fst r1 + Prod.snd r2) + Prod.snd r3)) top13 more14 x15 (hide (wr (j16 + (1 : Int)))) t18 ob0 ob1 ob2 ob3 (setL ob4 (Int.toNat u1) r3.1))))) (Option.bind (kAdd top13 c8 (0 : UInt64)) fun r0 => A_4 (hide (wr (t18 + (1 : Int)))) ob0 ob1 ob2 ob3 (setL (setL ob4 (3 : Nat) r0.1) (4 : Nat) (hide (more14 + Prod.snd r0))))
def zkX (N : Nat) (A_4 : Int -> (List UInt64) -> (List UInt64) -> (List UInt64) -> (List UInt64) -> (List UInt64) -> Option (Fr × Unit)) (n : Nat) (c8 top13 more14 x15 : UInt64) (j16 t18 : Int) (ob0 ob1 ob2 ob3 ob4 : List UInt64) : Option (Fr × Unit) :=
  zao (fun A x => zkW N A_4 (fun c8 top13 more14 x15 j16 t18 ob0 ob1 ob2 ob3 ob4 => A (((), ((), ((), ((), ((), (c8, (top13, (more14, (x15, (j16, (t18, ()))))))))))), (ob0, (ob1, (ob2, (ob3, (ob4, ()))))))) x.1.2.2.2.2.2.1 x.1.2.2.2.2.2.2.1 x.1.2.2.2.2.2.2.2.1 x.1.2.2.2.2.2.2.2.2.1 x.1.2.2.2.2.2.2.2.2.2.1 x.1.2.2.2.2.2.2.2.2.2.2.1 x.2.1 x.2.2.1 x.2.2.2.1 x.2.2.2.2.1 x.2.2.2.2.2.1) n (((), ((), ((), ((), ((), (c8, (top13, (more14, (x15, (j16, (t18, ()))))))))))), (ob0, (ob1, (ob2, (ob3, (ob4, ()))))))
def zpa (N : Nat) (A_4 : Int -> (List UInt64) -> (List UInt64) -> (List UInt64) -> (List UInt64) -> (List UInt64) -> Option (Fr × Unit)) (A_8 : Int -> UInt64 -> Int -> Int -> (List UInt64) -> (List UInt64) -> (List UInt64) -> (List UInt64) -> (List UInt64) -> Option (Fr × Unit)) (i7 : Int) (c8 : UInt64) (t18 t21 : Int) (ob0 ob1 ob2 ob3 ob4 : List UInt64) : Option (Fr × Unit) :=
  let u1 := hide (List.getD ob4 (0 : Nat) (0 : UInt64) * (18446744069414584319 : UInt64))
  let u2 := leI (0 : Int) t21 && ltI t21 (↑(5 : Nat) : Int)
  cond (hide (ltI t21 (4 : Int))) (must (leI (0 : Int) t21 && ltI t21 (↑(4 : Nat) : Int)) (must (leI (0 : Int) i7 && ltI i7 (↑(4 : Nat) : Int)) (Option.bind (p163 N (List.getD ob0 t21.toNat (0 : UInt64)) (List.getD ob1 i7.toNat (0 : UInt64))) fun r3 => must u2 (Option.bind (kAdd (r3.2.1) (List.getD ob4 t21.toNat (0 : UInt64)) (0 : UInt64)) fun r4 => Option.bind (kAdd r4.1 c8 (0 : UInt64)) fun r5 => must u2 (A_8 i7 (hide (hide (Prod.fst r3 + Prod.snd r4) + Prod.snd r5)) t18 (hide (wr (t21 + (1 : Int)))) ob0 ob1 ob2 ob3 (setL ob4 t21.toNat r5.1)))))) (Option.bind (kAdd (List.getD ob4 (4 : Nat) (0 : UInt64)) c8 (0 : UInt64)) fun r0 => Option.bind (p163 N u1 (List.getD ob3 (0 : Nat) (0 : UInt64))) fun r1 => Option.bind (kAdd (r1.2.1) (List.getD ob4 (0 : Nat) (0 : UInt64)) (0 : UInt64)) fun r2 => zkX N A_4 N (hide (Prod.fst r1 + Prod.snd r2)) r0.1 r0.2 u1 (1 : Int) t18 ob0 ob1 ob2 ob3 ob4)
def zpb (N : Nat) (A_4 : Int -> (List UInt64) -> (List UInt64) -> (List UInt64) -> (List UInt64) -> (List UInt64) -> Option (Fr × Unit)) (n : Nat) (i7 : Int) (c8 : UInt64) (t18 t21 : Int) (ob0 ob1 ob2 ob3 ob4 : List UInt64) : Option (Fr × Unit) :=
  zao (fun A x => zpa N A_4 (fun i7 c8 t18 t21 ob0 ob1 ob2 ob3 ob4 => A (((), ((), ((), ((), ((), (i7, (c8, (t18, (t21, ()))))))))), (ob0, (ob1, (ob2, (ob3, (ob4, ()))))))) x.1.2.2.2.2.2.1 x.1.2.2.2.2.2.2.1 x.1.2.2.2.2.2.2.2.1 x.1.2.2.2.2.2.2.2.2.1 x.2.1 x.2.2.1 x.2.2.2.1 x.2.2.2.2.1 x.2.2.2.2.2.1) n (((), ((), ((), ((), ((), (i7, (c8, (t18, (t21, ()))))))))), (ob0, (ob1, (ob2, (ob3, (ob4, ()))))))
def zpc (N : Nat) (A_4 : Int -> (List UInt64) -> (List UInt64) -> (List UInt64) -> (List UInt64) -> (List UInt64) -> Option (Fr × Unit)) (t18 : Int) (ob0 ob1 ob2 ob3 ob4 : List UInt64) : Option (Fr × Unit) :=
  cond (hide (ltI t18 (4 : Int))) (zpb N A_4 N t18 (0 : UInt64) t18 (0 : Int) ob0 ob1 ob2 ob3 ob4) (must (leN (Int.toNat (0 : Int) + (4 : Nat)) ob4.length) (Option.bind (Option.bind (Option.bind (Fr.of? (List.take (4 : Nat) ob4)) fun r0 => some ((r0, List.getD ob4 (4 : Nat) (0 : UInt64), ()))) fun r1 => p174 N r1.1 (r1.2.1)) fun r2 => some (({ a0 := Fr.a0 r2.1, a1 := Fr.a1 r2.1, a2 := Fr.a2 r2.1, a3 := Fr.a3 r2.1 }, ()))))
def zpd (N n : Nat) (t18 : Int) (ob0 ob1 ob2 ob3 ob4 : List UInt64) : Option (Fr × Unit) :=
  zao (fun A x => zpc N (fun t18 ob0 ob1 ob2 ob3 ob4 => A (((), ((), ((), ((), ((), (t18, ())))))), (ob0, (ob1, (ob2, (ob3, (ob4, ()))))))) x.1.2.2.2.2.2.1 x.2.1 x.2.2.1 x.2.2.2.1 x.2.2.2.2.1 x.2.2.2.2.2.1) n (((), ((), ((), ((), ((), (t18, ())))))), (ob0, (ob1, (ob2, (ob3, (ob4, ()))))))
def p172 (N : Nat) (a0 b1 : Fr) : Option (Fr × Unit) :=
  Option.bind (p169 N) fun r0 => zpd N N (0 : Int) ([Fr.a0 a0, Fr.a1 a0, Fr.a2 a0, Fr.a3 a0]) ([Fr.a0 b1, Fr.a1 b1, Fr.a2 b1, Fr.a3 b1]) ([(0 : UInt64), (0 : UInt64), (0 : UInt64), (0 : UInt64)]) ([Fr.a0 r0.1, Fr.a1 r0.1, Fr.a2 r0.1, Fr.a3 r0.1]) ([(0 : UInt64), (0 : UInt64), (0 : UInt64), (0 : UInt64), (0 : UInt64)])
def g172 (N : Nat) : Sg := sgK [K.fr, K.fr] [K.fr] fun x => p172 N x.1 x.2.1
def zw8 : List (Nat × Head) := [
    (4, ⟨⟨139, [(2, .u (.c (.ptr0 5000000 0))), (3, .u (.c (.ptr0 5000001 0))), (4, .u (.c (.ptr0 5000002 0))), (5, .u (.c (.ptr0 5000003 0))), (6, .u (.c (.ptr0 5000004 0))), (18, .u (.c (.int)))], [(5000000, ⟨false, 4, 53, .vec .u64⟩), (5000001, ⟨false, 4, 53, .vec .u64⟩), (5000002, ⟨false, 4, 53, .vec .u64⟩), (5000003, ⟨false, 4, 53, .vec .u64⟩), (5000004, ⟨false, 5, 206, .vec .u64⟩)]⟩, .exit 0⟩),
    (8, ⟨⟨139, [(2, .u (.c (.ptr0 9000000 0))), (3, .u (.c (.ptr0 9000001 0))), (4, .u (.c (.ptr0 9000002 0))), (5, .u (.c (.ptr0 9000003 0))), (6, .u (.c (.ptr0 9000004 0))), (7, .u (.c (.int))), (8, .u (.c (.u64))), (18, .u (.c (.int))), (21, .u (.c (.int)))], [(9000000, ⟨false, 4, 53, .vec .u64⟩), (9000001, ⟨false, 4, 53, .vec .u64⟩), (9000002, ⟨false, 4, 53, .vec .u64⟩), (9000003, ⟨false, 4, 53, .vec .u64⟩), (9000004, ⟨false, 5, 206, .vec .u64⟩)]⟩, .exit 2⟩),
    (22, ⟨⟨139, [(2, .u (.c (.ptr0 23000000 0))), (3, .u (.c (.ptr0 23000001 0))), (4, .u (.c (.ptr0 23000002 0))), (5, .u (.c (.ptr0 23000003 0))), (6, .u (.c (.ptr0 23000004 0))), (8, .u (.c (.u64))), (13, .u (.c (.u64))), (14, .u (.c (.u64))), (15, .u (.c (.u64))), (16, .u (.c (.int))), (18, .u (.c (.int)))], [(23000000, ⟨false, 4, 53, .vec .u64⟩), (23000001, ⟨false, 4, 53, .vec .u64⟩), (23000002, ⟨false, 4, 53, .vec .u64⟩), (23000003, ⟨false, 4, 53, .vec .u64⟩), (23000004, ⟨false, 5, 206, .vec .u64⟩)]⟩, .exit 4⟩)]
def zw9 (N : Nat) : List (Nat × Sg) := [(169, g169 N), (163, g163 N), (164, sg3 kAdd), (174, g174 N)]
theorem zpe (N : Nat) : zaS Try.prog pd.els (zw9 N) := ⟨ziJ N, ⟨zo2 N, ⟨ziG, ⟨zva N, trivial⟩⟩⟩⟩
theorem ziK (N : Nat) : SgOK Try.prog pd.els 172 (g172 N) :=
  zaE zaU (zai (zpe N)) Try.func172 (zat (by kernel_rfl)) [K.fr, K.fr] [K.fr] _ N zw8 4 fun x => by kernel_rfl
def p170 (N : Nat) (a0 : Fr) : Option (Fr × Unit) :=
  Option.bind (p213 N) fun r0 => Option.bind (p172 N ({ a0 := Fr.a0 a0, a1 := Fr.a1 a0, a2 := Fr.a2 a0, a3 := Fr.a3 a0 }) ({ a0 := Fr.a0 r0.1, a1 := Fr.a1 r0.1, a2 := Fr.a2 r0.1, a3 := Fr.a3 r0.1 })) fun r1 => some (({ a0 := Fr.a0 r1.1, a1 := Fr.a1 r1.1, a2 := Fr.a2 r1.1, a3 := Fr.a3 r1.1 }, ()))
def g170 (N : Nat) : Sg := sgK [K.fr] [K.fr] fun x => p170 N x.1
def zxa : List (Nat × Head) := [
    ]
def zxb (N : Nat) : List (Nat × Sg) := [(213, g213 N), (172, g172 N)]
theorem zpf (N : Nat) : zaS Try.prog pd.els (zxb N) := ⟨zu9 N, ⟨ziK N, trivial⟩⟩
theorem zpg (N : Nat) : SgOK Try.prog pd.els 170 (g170 N) :=
  zaE zaU (zai (zpf N)) Try.func170 (zat (by kernel_rfl)) [K.fr] [K.fr] _ N zxa 4 fun x => by kernel_rfl
def p171 (N : Nat) (a0 : Fr) : Option (Fr × Unit) :=
  Option.bind (p172 N ({ a0 := Fr.a0 a0, a1 := Fr.a1 a0, a2 := Fr.a2 a0, a3 := Fr.a3 a0 }) ({ a0 := (1 : UInt64), a1 := (0 : UInt64), a2 := (0 : UInt64), a3 := (0 : UInt64) })) fun r0 => some (({ a0 := Fr.a0 r0.1, a1 := Fr.a1 r0.1, a2 := Fr.a2 r0.1, a3 := Fr.a3 r0.1 }, ()))
def g171 (N : Nat) : Sg := sgK [K.fr] [K.fr] fun x => p171 N x.1
def zxc : List (Nat × Head) := [
    ]
def zxd (N : Nat) : List (Nat × Sg) := [(172, g172 N)]
theorem zph (N : Nat) : zaS Try.prog pd.els (zxd N) := ⟨ziK N, trivial⟩
theorem zvb (N : Nat) : SgOK Try.prog pd.els 171 (g171 N) :=
  zaE zaU (zai (zph N)) Try.func171 (zat (by kernel_rfl)) [K.fr] [K.fr] _ N zxc 4 fun x => by kernel_rfl
def ziL (N : Nat) (A_1000 : (List UInt64) -> Int -> (List UInt64) -> (List UInt64) -> (List UInt64) -> Option (Fr × Unit)) (e1 : List UInt64) (i7 : Int) (ob0 ob1 ob2 : List UInt64) : Option (Fr × Unit) :=
  let u1 := hide (wr (i7 - (1 : Int)))
  let u2 := hide (wr (Int.tdiv u1 (64 : Int)))
  cond (hide (ltI u1 (0 : Int))) (Option.bind (Option.bind (Option.bind (Fr.of? ob2) fun r9 => some ((r9, ()))) fun r10 => p171 N r10.1) fun r11 => some (({ a0 := Fr.a0 r11.1, a1 := Fr.a1 r11.1, a2 := Fr.a2 r11.1, a3 := Fr.a3 r11.1 }, ()))) (Option.bind (Option.bind (Option.bind (Fr.of? ob2) fun r0 => Option.bind (Option.bind (Fr.of? ob2) fun r1 => some ((r1, ()))) fun r2 => some ((r0, r2))) fun r3 => p172 N r3.1 (r3.2.1)) fun r4 => must (leI (0 : Int) u2 && ltI u2 (↑e1.length : Int)) (cond (hide (hide (hide (zaT (List.getD e1 (Int.toNat u2) (0 : UInt64)) (UInt64.toNat (hide (u64I (hide (Int.tmod u1 (64 : Int))))))) &&& (1 : UInt64)) == (1 : UInt64))) (Option.bind (Option.bind (Option.bind (Option.bind (Fr.of? ob1) fun r5 => some ((r5, ()))) fun r6 => some (({ a0 := Fr.a0 r4.1, a1 := Fr.a1 r4.1, a2 := Fr.a2 r4.1, a3 := Fr.a3 r4.1 }, r6))) fun r7 => p172 N r7.1 (r7.2.1)) fun r8 => A_1000 e1 u1 ob0 ob1 ([Fr.a0 r8.1, Fr.a1 r8.1, Fr.a2 r8.1, Fr.a3 r8.1])) (A_1000 e1 u1 ob0 ob1 ([Fr.a0 r4.1, Fr.a1 r4.1, Fr.a2 r4.1, Fr.a3 r4.1]))))
def ziM (N n : Nat) (e1 : List UInt64) (i7 : Int) (ob0 ob1 ob2 : List UInt64) : Option (Fr × Unit) :=
  zao (fun A x => ziL N (fun e1 i7 ob0 ob1 ob2 => A ((e1, ((), ((), ((), (i7, ()))))), (ob0, (ob1, (ob2, ()))))) x.1.1 x.1.2.2.2.2.1 x.2.1 x.2.2.1 x.2.2.2.1) n ((e1, ((), ((), ((), (i7, ()))))), (ob0, (ob1, (ob2, ()))))
def p72 (N : Nat) (a0 : Fr) (e1 : List UInt64) : Option (Fr × Unit) :=
  Option.bind (p170 N ({ a0 := Fr.a0 a0, a1 := Fr.a1 a0, a2 := Fr.a2 a0, a3 := Fr.a3 a0 })) fun r0 => Option.bind (p170 N ({ a0 := (1 : UInt64), a1 := (0 : UInt64), a2 := (0 : UInt64), a3 := (0 : UInt64) })) fun r1 => ziM N N e1 (hide (wr ((64 : Int) * (↑e1.length : Int)))) ([(0 : UInt64), (0 : UInt64), (0 : UInt64), (0 : UInt64)]) ([Fr.a0 r0.1, Fr.a1 r0.1, Fr.a2 r0.1, Fr.a3 r0.1]) ([Fr.a0 r1.1, Fr.a1 r1.1, Fr.a2 r1.1, Fr.a3 r1.1])
def g72 (N : Nat) : Sg := sgK [K.fr, (K.ro .u64)] [K.fr] fun x => p72 N x.1 x.2.1
def zz7 : List (Nat × Head) := [
    (1000, ⟨⟨38, [(1, .u (.c (.ro .u64))), (4, .u (.c (.ptr0 1001000000 0))), (5, .u (.c (.ptr0 1001000001 0))), (6, .u (.c (.ptr0 1001000002 0))), (7, .u (.c (.int)))], [(1001000000, ⟨false, 4, 53, .vec .u64⟩), (1001000001, ⟨false, 4, 53, .vec .u64⟩), (1001000002, ⟨false, 4, 53, .vec .u64⟩)]⟩, .fall⟩)]
def zz8 (N : Nat) : List (Nat × Sg) := [(170, g170 N), (171, g171 N), (172, g172 N)]
theorem zsm (N : Nat) : zaS Try.prog pd.els (zz8 N) := ⟨zpg N, ⟨zvb N, ⟨ziK N, trivial⟩⟩⟩
theorem ztT (N : Nat) : SgOK Try.prog pd.els 72 (g72 N) :=
  zaE zaU (zai (zsm N)) Try.func72 (zat (by kernel_rfl)) [K.fr, (K.ro .u64)] [K.fr] _ N zz7 4 fun x => by kernel_rfl
def zvc (N : Nat) (A_6 : Int -> Int -> (List UInt64) -> (List UInt64) -> Option (Fr × Int × Unit)) (A_9 : UInt64 -> Int -> Int -> Int -> (List UInt64) -> (List UInt64) -> Option (Fr × Int × Unit)) (over5 : UInt64) (i6 t19 t20 : Int) (ob0 ob1 : List UInt64) : Option (Fr × Int × Unit) :=
  cond (hide (leI (0 : Int) i6)) (must (leI (0 : Int) i6 && ltI i6 (↑(4 : Nat) : Int)) (must (leI (0 : Int) i6 && ltI i6 (↑(4 : Nat) : Int)) (must (leI (0 : Int) i6 && ltI i6 (↑(4 : Nat) : Int)) (A_9 (hide (zc6 (List.getD ob1 i6.toNat (0 : UInt64)) (UInt64.toNat (63 : UInt64)))) (hide (wr (i6 - (1 : Int)))) t19 t20 ob0 (setL ob1 i6.toNat (hide (hide (zaT (List.getD ob1 i6.toNat (0 : UInt64)) (UInt64.toNat (1 : UInt64))) ||| over5))))))) (A_6 t19 (hide (wr (t20 + (1 : Int)))) ob0 ob1)
def zvd (N : Nat) (A_6 : Int -> Int -> (List UInt64) -> (List UInt64) -> Option (Fr × Int × Unit)) (n : Nat) (over5 : UInt64) (i6 t19 t20 : Int) (ob0 ob1 : List UInt64) : Option (Fr × Int × Unit) :=
  zao (fun A x => zvc N A_6 (fun over5 i6 t19 t20 ob0 ob1 => A (((), ((), (over5, (i6, (t19, (t20, ())))))), (ob0, (ob1, ())))) x.1.2.2.1 x.1.2.2.2.1 x.1.2.2.2.2.1 x.1.2.2.2.2.2.1 x.2.1 x.2.2.1) n (((), ((), (over5, (i6, (t19, (t20, ())))))), (ob0, (ob1, ())))
def zve (N : Nat) (A_6 : Int -> Int -> (List UInt64) -> (List UInt64) -> Option (Fr × Int × Unit)) (t19 t20 : Int) (ob0 ob1 : List UInt64) : Option (Fr × Int × Unit) :=
  cond (hide (ltI t20 t19)) (zvd N A_6 N (0 : UInt64) (3 : Int) t19 t20 ob0 ob1) (Option.bind (p75 N (7 : UInt64)) fun r0 => Option.bind (p72 N ({ a0 := Fr.a0 r0.1, a1 := Fr.a1 r0.1, a2 := Fr.a2 r0.1, a3 := Fr.a3 r0.1 }) (List.take (Int.toNat ((↑(4 : Nat) : Int) - (0 : Int))) ob1)) fun r1 => some (({ a0 := Fr.a0 r1.1, a1 := Fr.a1 r1.1, a2 := Fr.a2 r1.1, a3 := Fr.a3 r1.1 }, (0 : Int), ())))
def zvf (N n : Nat) (t19 t20 : Int) (ob0 ob1 : List UInt64) : Option (Fr × Int × Unit) :=
  zao (fun A x => zve N (fun t19 t20 ob0 ob1 => A (((), ((), (t19, (t20, ())))), (ob0, (ob1, ())))) x.1.2.2.1 x.1.2.2.2.1 x.2.1 x.2.2.1) n (((), ((), (t19, (t20, ())))), (ob0, (ob1, ())))
def p77 (N : Nat) (log0 : Int) : Option (Fr × Int × Unit) :=
  cond (hide (ltI log0 (0 : Int))) (some (({ a0 := (0 : UInt64), a1 := (0 : UInt64), a2 := (0 : UInt64), a3 := (0 : UInt64) }, (1 : Int), ()))) (cond (hide (ltI (32 : Int) log0)) (some (({ a0 := (0 : UInt64), a1 := (0 : UInt64), a2 := (0 : UInt64), a3 := (0 : UInt64) }, (1 : Int), ()))) (Option.bind (p169 N) fun r0 => zvf N N log0 (0 : Int) ([(0 : UInt64), (0 : UInt64), (0 : UInt64), (0 : UInt64)]) (setL [Fr.a0 r0.1, Fr.a1 r0.1, Fr.a2 r0.1, Fr.a3 r0.1] (0 : Nat) (hide (Fr.a0 r0.1 - (1 : UInt64))))))
def g77 (N : Nat) : Sg := sgK [K.int] [K.fr, K.int] fun x => p77 N x.1
def zz9 : List (Nat × Head) := [
    (6, ⟨⟨42, [(2, .u (.c (.ptr0 7000000 0))), (4, .u (.c (.ptr0 7000001 0))), (19, .u (.c (.int))), (20, .u (.c (.int)))], [(7000000, ⟨false, 4, 53, .vec .u64⟩), (7000001, ⟨false, 4, 53, .vec .u64⟩)]⟩, .exit 0⟩),
    (9, ⟨⟨42, [(2, .u (.c (.ptr0 10000000 0))), (4, .u (.c (.ptr0 10000001 0))), (5, .u (.c (.u64))), (6, .u (.c (.int))), (19, .u (.c (.int))), (20, .u (.c (.int)))], [(10000000, ⟨false, 4, 53, .vec .u64⟩), (10000001, ⟨false, 4, 53, .vec .u64⟩)]⟩, .exit 2⟩)]
def zAa (N : Nat) : List (Nat × Sg) := [(169, g169 N), (75, g75 N), (72, g72 N)]
theorem zsn (N : Nat) : zaS Try.prog pd.els (zAa N) := ⟨ziJ N, ⟨zo4 N, ⟨ztT N, trivial⟩⟩⟩
theorem zxe (N : Nat) : SgOK Try.prog pd.els 77 (g77 N) :=
  zaE zaU (zai (zsn N)) Try.func77 (zat (by kernel_rfl)) [K.int] [K.fr, K.int] _ N zz9 4 fun x => by kernel_rfl
def p76 (N : Nat) (a0 b1 : Fr) : Option (Fr × Unit) :=
  Option.bind (p172 N ({ a0 := Fr.a0 a0, a1 := Fr.a1 a0, a2 := Fr.a2 a0, a3 := Fr.a3 a0 }) ({ a0 := Fr.a0 b1, a1 := Fr.a1 b1, a2 := Fr.a2 b1, a3 := Fr.a3 b1 })) fun r0 => Option.bind (p170 N ({ a0 := Fr.a0 r0.1, a1 := Fr.a1 r0.1, a2 := Fr.a2 r0.1, a3 := Fr.a3 r0.1 })) fun r1 => some (({ a0 := Fr.a0 r1.1, a1 := Fr.a1 r1.1, a2 := Fr.a2 r1.1, a3 := Fr.a3 r1.1 }, ()))
def g76 (N : Nat) : Sg := sgK [K.fr, K.fr] [K.fr] fun x => p76 N x.1 x.2.1
def zAb : List (Nat × Head) := [
    ]
def zAc (N : Nat) : List (Nat × Sg) := [(172, g172 N), (170, g170 N)]
theorem zso (N : Nat) : zaS Try.prog pd.els (zAc N) := ⟨ziK N, ⟨zpg N, trivial⟩⟩
theorem zxf (N : Nat) : SgOK Try.prog pd.els 76 (g76 N) :=
  zaE zaU (zai (zso N)) Try.func76 (zat (by kernel_rfl)) [K.fr, K.fr] [K.fr] _ N zAb 4 fun x => by kernel_rfl
def p79 (N : Nat) (a0 : Fr) : Option (Bool × Unit) :=
  Option.bind (p169 N) fun r0 => Option.bind (p61 N (List.take (Int.toNat ((↑(4 : Nat) : Int) - (0 : Int))) [Fr.a0 a0, Fr.a1 a0, Fr.a2 a0, Fr.a3 a0]) (List.take (Int.toNat ((↑(4 : Nat) : Int) - (0 : Int))) [Fr.a0 r0.1, Fr.a1 r0.1, Fr.a2 r0.1, Fr.a3 r0.1])) fun r1 => some ((hide (ltI r1.1 (0 : Int)), ()))
def g79 (N : Nat) : Sg := sgK [K.fr] [K.bool] fun x => p79 N x.1
def zAd : List (Nat × Head) := [
    ]
def zAe (N : Nat) : List (Nat × Sg) := [(169, g169 N), (61, g61 N)]
theorem zsp (N : Nat) : zaS Try.prog pd.els (zAe N) := ⟨ziJ N, ⟨zwP N, trivial⟩⟩
theorem zxg (N : Nat) : SgOK Try.prog pd.els 79 (g79 N) :=
  zaE zaU (zai (zsp N)) Try.func79 (zat (by kernel_rfl)) [K.fr] [K.bool] _ N zAd 4 fun x => by kernel_rfl
def p88 (N : Nat) : Option (List UInt64 × Unit) :=
  some (([(18446744069414584321 : UInt64), (6034159408538082302 : UInt64), (3691218898639771653 : UInt64), (8353516859464449352 : UInt64)], ()))
def g88 (N : Nat) : Sg := sgK [] [(K.ro .u64)] fun x => p88 N
def zAf : List (Nat × Head) := [
    ]
def zAg (N : Nat) : List (Nat × Sg) := []
theorem zsq (N : Nat) : zaS Try.prog pd.els (zAg N) := trivial
theorem zmt (N : Nat) : SgOK Try.prog pd.els 88 (g88 N) :=
  zaE zaU (zai (zsq N)) Try.func88 (zat (by kernel_rfl)) [] [(K.ro .u64)] _ N zAf 4 fun x => by kernel_rfl
def zpi (N : Nat) (A_2 : (List UInt64) -> (List UInt64) -> Int -> Option (Bool × Unit)) (a0 m1 : List UInt64) (i5 : Int) : Option (Bool × Unit) :=
  cond (hide (leI (0 : Int) i5)) (must (leI (0 : Int) i5 && ltI i5 (↑a0.length : Int)) (must (leI (0 : Int) i5 && ltI i5 (↑m1.length : Int)) (cond (hide !List.getD a0 i5.toNat (0 : UInt64) == List.getD m1 i5.toNat (0 : UInt64)) (must (leI (0 : Int) i5 && ltI i5 (↑a0.length : Int)) (must (leI (0 : Int) i5 && ltI i5 (↑m1.length : Int)) (some ((hide (ltN (UInt64.toNat (List.getD a0 i5.toNat (0 : UInt64))) (UInt64.toNat (List.getD m1 i5.toNat (0 : UInt64)))), ()))))) (A_2 a0 m1 (hide (wr (i5 - (1 : Int)))))))) (some ((false, ())))
def zpj (N n : Nat) (a0 m1 : List UInt64) (i5 : Int) : Option (Bool × Unit) :=
  zao (fun A x => zpi N (fun a0 m1 i5 => A ((a0, (m1, (i5, ()))), ())) x.1.1 x.1.2.1 x.1.2.2.1) n ((a0, (m1, (i5, ()))), ())
def p168 (N : Nat) (a0 m1 : List UInt64) : Option (Bool × Unit) :=
  zpj N N a0 m1 (hide (wr ((↑m1.length : Int) - (1 : Int))))
def g168 (N : Nat) : Sg := sgK [(K.ro .u64), (K.ro .u64)] [K.bool] fun x => p168 N x.1 x.2.1
def zxh : List (Nat × Head) := [
    (2, ⟨⟨31, [(0, .u (.c (.ro .u64))), (1, .u (.c (.ro .u64))), (5, .u (.c (.int)))], []⟩, .exit 0⟩)]
def zxi (N : Nat) : List (Nat × Sg) := []
theorem zpk (N : Nat) : zaS Try.prog pd.els (zxi N) := trivial
theorem zkY (N : Nat) : SgOK Try.prog pd.els 168 (g168 N) :=
  zaE zaU (zai (zpk N)) Try.func168 (zat (by kernel_rfl)) [(K.ro .u64), (K.ro .u64)] [K.bool] _ N zxh 4 fun x => by kernel_rfl
def p69 (N : Nat) (a0 : Fr) : Option (Bool × Unit) :=
  Option.bind (p88 N) fun r0 => Option.bind (p168 N (List.take (Int.toNat ((↑(4 : Nat) : Int) - (0 : Int))) [Fr.a0 a0, Fr.a1 a0, Fr.a2 a0, Fr.a3 a0]) r0.1) fun r1 => some ((Prod.fst r1, ()))
def g69 (N : Nat) : Sg := sgK [K.fr] [K.bool] fun x => p69 N x.1
def zAh : List (Nat × Head) := [
    ]
def zAi (N : Nat) : List (Nat × Sg) := [(88, g88 N), (168, g168 N)]
theorem zsr (N : Nat) : zaS Try.prog pd.els (zAi N) := ⟨zmt N, ⟨zkY N, trivial⟩⟩
theorem zxj (N : Nat) : SgOK Try.prog pd.els 69 (g69 N) :=
  zaE zaU (zai (zsr N)) Try.func69 (zat (by kernel_rfl)) [K.fr] [K.bool] _ N zAh 4 fun x => by kernel_rfl
def p173 (N : Nat) (n0 : UInt64) : Option (Fr × Unit) :=
  some (({ a0 := n0, a1 := (0 : UInt64), a2 := (0 : UInt64), a3 := (0 : UInt64) }, ()))
def g173 (N : Nat) : Sg := sgK [K.u64] [K.fr] fun x => p173 N x.1
def zxk : List (Nat × Head) := [
    ]
def zxl (N : Nat) : List (Nat × Sg) := []
theorem zpl (N : Nat) : zaS Try.prog pd.els (zxl N) := trivial
theorem zkZ (N : Nat) : SgOK Try.prog pd.els 173 (g173 N) :=
  zaE zaU (zai (zpl N)) Try.func173 (zat (by kernel_rfl)) [K.u64] [K.fr] _ N zxk 4 fun x => by kernel_rfl
def zpm (N : Nat) (A_2 : Nat -> Nat -> (List UInt64) -> UInt64 -> Int -> (List UInt64) -> Option (List UInt64 × Unit)) (t0f t0n : Nat) (m1 : List UInt64) (c4 : UInt64) (i5 : Int) (t0o : List UInt64) : Option (List UInt64 × Unit) :=
  cond (hide (ltI i5 (↑m1.length : Int))) (must (leI (0 : Int) i5 && ltI i5 (↑t0n : Int)) (must (leI (0 : Int) i5 && ltI i5 (↑m1.length : Int)) (Option.bind (kSub (List.getD t0o (t0f + Int.toNat i5) (0 : UInt64)) (List.getD m1 i5.toNat (0 : UInt64)) c4) fun r0 => must (leI (0 : Int) i5 && ltI i5 (↑t0n : Int)) (A_2 t0f t0n m1 r0.2 (hide (wr (i5 + (1 : Int)))) (setL t0o (t0f + Int.toNat i5) r0.1))))) (some ((t0o, ())))
def zpn (N n t0f t0n : Nat) (m1 : List UInt64) (c4 : UInt64) (i5 : Int) (t0o : List UInt64) : Option (List UInt64 × Unit) :=
  zao (fun A x => zpm N (fun t0f t0n m1 c4 i5 t0o => A (((t0f, t0n), (m1, (c4, (i5, ())))), (t0o, ()))) x.1.1.1 x.1.1.2 x.1.2.1 x.1.2.2.1 x.1.2.2.2.1 x.2.1) n (((t0f, t0n), (m1, (c4, (i5, ())))), (t0o, ()))
def p214 (N : Nat) (t0 m1 : List UInt64) : Option (List UInt64 × Unit) :=
  zpn N N (0 : Nat) t0.length m1 (0 : UInt64) (0 : Int) t0
def g214 (N : Nat) : Sg := sgIO 1 [(K.vec .u64), (K.ro .u64)] [(K.vec .u64)] fun x => p214 N x.1 x.2.1
def zxm : List (Nat × Head) := [
    (2, ⟨⟨28, [(0, .u (.c (.sl 3000000))), (1, .u (.c (.ro .u64))), (4, .u (.c (.u64))), (5, .u (.c (.int)))], [(3000000, ⟨false, 0, 1000000, .vec .u64⟩)]⟩, .exit 0⟩)]
def zxn (N : Nat) : List (Nat × Sg) := [(159, sg3 kSub)]
theorem zpo (N : Nat) : zaS Try.prog pd.els (zxn N) := ⟨zkV, trivial⟩
theorem zpp (N : Nat) : SgOK Try.prog pd.els 214 (g214 N) :=
  zoW zaU (zai (zpo N)) Try.func214 (zat (by kernel_rfl)) 1 (by decide) [(K.vec .u64), (K.ro .u64)] [(K.vec .u64)] _ N zxm 4 fun x => by kernel_rfl
def zk0 (N : Nat) (A_10 : (List UInt64) -> (List UInt64) -> (List UInt64) -> Int -> UInt64 -> Int -> (List UInt64) -> Option (List UInt64 × Unit)) (A_27 : (List UInt64) -> (List UInt64) -> (List UInt64) -> Int -> UInt64 -> Int -> UInt64 -> UInt64 -> Int -> (List UInt64) -> Option (List UInt64 × Unit)) (a0 b1 m2 : List UInt64) (n7 : Int) (inv8 : UInt64) (i11 : Int) (c12 q21 : UInt64) (k24 : Int) (t10o : List UInt64) : Option (List UInt64 × Unit) :=
  let u1 := (↑t10o.length : Int)
  let u2 := hide (wr (n7 - (1 : Int)))
  let u3 := hide (wr (k24 - (1 : Int)))
  let u4 := hide (wr (n7 + (1 : Int)))
  cond (hide (ltI k24 n7)) (must (leI (0 : Int) k24 && ltI k24 (↑m2.length : Int)) (Option.bind (p163 N q21 (List.getD m2 k24.toNat (0 : UInt64))) fun r1 => must (leI (0 : Int) k24 && ltI k24 u1) (Option.bind (kAdd (List.getD t10o k24.toNat (0 : UInt64)) (r1.2.1) (0 : UInt64)) fun r2 => Option.bind (kAdd r2.1 c12 (0 : UInt64)) fun r3 => must (leI (0 : Int) u3 && ltI u3 u1) (A_27 a0 b1 m2 n7 inv8 i11 (hide (hide (Prod.fst r1 + Prod.snd r2) + Prod.snd r3)) q21 (hide (wr (k24 + (1 : Int)))) (setL t10o (Int.toNat u3) r3.1))))) (must (leI (0 : Int) n7 && ltI n7 u1) (Option.bind (kAdd (List.getD t10o n7.toNat (0 : UInt64)) c12 (0 : UInt64)) fun r0 => must (leI (0 : Int) u4 && ltI u4 u1) (must (leI (0 : Int) u2 && ltI u2 u1) (must (leI (0 : Int) n7 && ltI n7 (↑(List.length (setL t10o (Int.toNat u2) r0.1)) : Int)) (A_10 a0 b1 m2 n7 inv8 (hide (wr (i11 + (1 : Int)))) (setL (setL t10o (Int.toNat u2) r0.1) n7.toNat (hide (List.getD t10o (Int.toNat u4) (0 : UInt64) + Prod.snd r0))))))))
def zk1 (N : Nat) (A_10 : (List UInt64) -> (List UInt64) -> (List UInt64) -> Int -> UInt64 -> Int -> (List UInt64) -> Option (List UInt64 × Unit)) (n : Nat) (a0 b1 m2 : List UInt64) (n7 : Int) (inv8 : UInt64) (i11 : Int) (c12 q21 : UInt64) (k24 : Int) (t10o : List UInt64) : Option (List UInt64 × Unit) :=
  zao (fun A x => zk0 N A_10 (fun a0 b1 m2 n7 inv8 i11 c12 q21 k24 t10o => A ((a0, (b1, (m2, (n7, (inv8, ((), (i11, (c12, (q21, (k24, ())))))))))), (t10o, ()))) x.1.1 x.1.2.1 x.1.2.2.1 x.1.2.2.2.1 x.1.2.2.2.2.1 x.1.2.2.2.2.2.2.1 x.1.2.2.2.2.2.2.2.1 x.1.2.2.2.2.2.2.2.2.1 x.1.2.2.2.2.2.2.2.2.2.1 x.2.1) n ((a0, (b1, (m2, (n7, (inv8, ((), (i11, (c12, (q21, (k24, ())))))))))), (t10o, ()))
def zk2 (N : Nat) (A_10 : (List UInt64) -> (List UInt64) -> (List UInt64) -> Int -> UInt64 -> Int -> (List UInt64) -> Option (List UInt64 × Unit)) (A_14 : (List UInt64) -> (List UInt64) -> (List UInt64) -> Int -> UInt64 -> Int -> UInt64 -> Int -> (List UInt64) -> Option (List UInt64 × Unit)) (a0 b1 m2 : List UInt64) (n7 : Int) (inv8 : UInt64) (i11 : Int) (c12 : UInt64) (k13 : Int) (t10o : List UInt64) : Option (List UInt64 × Unit) :=
  let u3 := hide (wr (n7 + (1 : Int)))
  let u1 := Int.toNat u3
  let u2 := (↑t10o.length : Int)
  let u4 := leI (0 : Int) k13 && ltI k13 u2
  let u5 := leI (0 : Int) n7 && ltI n7 u2
  cond (hide (ltI k13 n7)) (must (leI (0 : Int) i11 && ltI i11 (↑a0.length : Int)) (must (leI (0 : Int) k13 && ltI k13 (↑b1.length : Int)) (Option.bind (p163 N (List.getD a0 i11.toNat (0 : UInt64)) (List.getD b1 k13.toNat (0 : UInt64))) fun r3 => must u4 (Option.bind (kAdd (List.getD t10o k13.toNat (0 : UInt64)) (r3.2.1) (0 : UInt64)) fun r4 => Option.bind (kAdd r4.1 c12 (0 : UInt64)) fun r5 => must u4 (A_14 a0 b1 m2 n7 inv8 i11 (hide (hide (Prod.fst r3 + Prod.snd r4) + Prod.snd r5)) (hide (wr (k13 + (1 : Int)))) (setL t10o k13.toNat r5.1)))))) (must u5 (Option.bind (kAdd (List.getD t10o n7.toNat (0 : UInt64)) c12 (0 : UInt64)) fun r0 => must u5 (must (leI (0 : Int) u3 && ltI u3 (↑(List.length (setL t10o n7.toNat r0.1)) : Int)) (must (ltI (0 : Int) (↑(List.length (setL (setL t10o n7.toNat r0.1) u1 r0.2)) : Int)) (must (ltI (0 : Int) (↑m2.length : Int)) (Option.bind (p163 N (hide (List.getD (setL (setL t10o n7.toNat r0.1) u1 r0.2) (0 : Nat) (0 : UInt64) * inv8)) (List.getD m2 (0 : Nat) (0 : UInt64))) fun r1 => must (ltI (0 : Int) (↑(List.length (setL (setL t10o n7.toNat r0.1) u1 r0.2)) : Int)) (Option.bind (kAdd (List.getD (setL (setL t10o n7.toNat r0.1) u1 r0.2) (0 : Nat) (0 : UInt64)) (r1.2.1) (0 : UInt64)) fun r2 => zk1 N A_10 N a0 b1 m2 n7 inv8 i11 (hide (Prod.fst r1 + Prod.snd r2)) (hide (List.getD (setL (setL t10o n7.toNat r0.1) u1 r0.2) (0 : Nat) (0 : UInt64) * inv8)) (1 : Int) (setL (setL t10o n7.toNat r0.1) u1 r0.2))))))))
def zk3 (N : Nat) (A_10 : (List UInt64) -> (List UInt64) -> (List UInt64) -> Int -> UInt64 -> Int -> (List UInt64) -> Option (List UInt64 × Unit)) (n : Nat) (a0 b1 m2 : List UInt64) (n7 : Int) (inv8 : UInt64) (i11 : Int) (c12 : UInt64) (k13 : Int) (t10o : List UInt64) : Option (List UInt64 × Unit) :=
  zao (fun A x => zk2 N A_10 (fun a0 b1 m2 n7 inv8 i11 c12 k13 t10o => A ((a0, (b1, (m2, (n7, (inv8, ((), (i11, (c12, (k13, ()))))))))), (t10o, ()))) x.1.1 x.1.2.1 x.1.2.2.1 x.1.2.2.2.1 x.1.2.2.2.2.1 x.1.2.2.2.2.2.2.1 x.1.2.2.2.2.2.2.2.1 x.1.2.2.2.2.2.2.2.2.1 x.2.1) n ((a0, (b1, (m2, (n7, (inv8, ((), (i11, (c12, (k13, ()))))))))), (t10o, ()))
def zk4 (N : Nat) (A_10 : (List UInt64) -> (List UInt64) -> (List UInt64) -> Int -> UInt64 -> Int -> (List UInt64) -> Option (List UInt64 × Unit)) (a0 b1 m2 : List UInt64) (n7 : Int) (inv8 : UInt64) (i11 : Int) (t10o : List UInt64) : Option (List UInt64 × Unit) :=
  let u1 := Int.toNat (n7 - (0 : Int))
  let u2 := leI (0 : Int) n7 && leI n7 (↑t10o.length : Int)
  let u3 := ltN (0 : Nat) u1
  let u4 := ltN (0 : Nat) t10o.length
  cond (hide (ltI i11 n7)) (zk3 N A_10 N a0 b1 m2 n7 inv8 i11 (0 : UInt64) (0 : Int) t10o) (must (leI (0 : Int) n7 && ltI n7 (↑t10o.length : Int)) (cond (hide !List.getD t10o n7.toNat (0 : UInt64) == (0 : UInt64)) (must u4 (Option.bind (p214 N t10o m2) fun r2 => must (Nat.beq r2.1.length t10o.length) (must (leI (0 : Int) n7 && leI n7 (↑r2.1.length : Int)) (must u3 (some ((List.take u1 r2.1, ()))))))) (must u2 (Option.bind (p168 N (List.take u1 t10o) m2) fun r0 => cond (hide !r0.1) (must u4 (Option.bind (p214 N t10o m2) fun r1 => must (Nat.beq r1.1.length t10o.length) (must (leI (0 : Int) n7 && leI n7 (↑r1.1.length : Int)) (must u3 (some ((List.take u1 r1.1, ()))))))) (must u2 (must u3 (some ((List.take u1 t10o, ())))))))))
def zk5 (N n : Nat) (a0 b1 m2 : List UInt64) (n7 : Int) (inv8 : UInt64) (i11 : Int) (t10o : List UInt64) : Option (List UInt64 × Unit) :=
  zao (fun A x => zk4 N (fun a0 b1 m2 n7 inv8 i11 t10o => A ((a0, (b1, (m2, (n7, (inv8, ((), (i11, ()))))))), (t10o, ()))) x.1.1 x.1.2.1 x.1.2.2.1 x.1.2.2.2.1 x.1.2.2.2.2.1 x.1.2.2.2.2.2.2.1 x.2.1) n ((a0, (b1, (m2, (n7, (inv8, ((), (i11, ()))))))), (t10o, ()))
def zpq (N : Nat) (A_4 : (List UInt64) -> (List UInt64) -> (List UInt64) -> Int -> UInt64 -> Int -> Option (List UInt64 × Unit)) (a0 b1 m2 : List UInt64) (n7 : Int) (inv8 : UInt64) (i9 : Int) : Option (List UInt64 × Unit) :=
  cond (hide (ltI i9 (6 : Int))) (must (ltI (0 : Int) (↑m2.length : Int)) (A_4 a0 b1 m2 n7 (hide (inv8 * hide ((2 : UInt64) - hide (List.getD m2 (0 : Nat) (0 : UInt64) * inv8)))) (hide (wr (i9 + (1 : Int)))))) (must (leI (0 : Int) (hide (wr (n7 + (2 : Int)))) && (eqI (hide (wr (n7 + (2 : Int)))) (hide (wr (n7 + (2 : Int)))) && leN (Int.toNat (hide (wr (n7 + (2 : Int)))) * (8 : Nat)) (140737488355328 : Nat))) (zk5 N N a0 b1 m2 n7 (hide ((0 : UInt64) - inv8)) (0 : Int) (List.replicate (Int.toNat (hide (wr (n7 + (2 : Int))))) (0 : UInt64))))
def zpr (N n : Nat) (a0 b1 m2 : List UInt64) (n7 : Int) (inv8 : UInt64) (i9 : Int) : Option (List UInt64 × Unit) :=
  zao (fun A x => zpq N (fun a0 b1 m2 n7 inv8 i9 => A ((a0, (b1, (m2, (n7, (inv8, (i9, ())))))), ())) x.1.1 x.1.2.1 x.1.2.2.1 x.1.2.2.2.1 x.1.2.2.2.2.1 x.1.2.2.2.2.2.1) n ((a0, (b1, (m2, (n7, (inv8, (i9, ())))))), ())
def p184 (N : Nat) (a0 b1 m2 : List UInt64) : Option (List UInt64 × Unit) :=
  must (ltI (0 : Int) (↑m2.length : Int)) (zpr N N a0 b1 m2 ((↑m2.length : Int)) (List.getD m2 (0 : Nat) (0 : UInt64)) (0 : Int))
def g184 (N : Nat) : Sg := sgK [(K.ro .u64), (K.ro .u64), (K.ro .u64)] [(K.view .u64)] fun x => p184 N x.1 x.2.1 x.2.2.1
def zxo : List (Nat × Head) := [
    (4, ⟨⟨222, [(0, .u (.c (.ro .u64))), (1, .u (.c (.ro .u64))), (2, .u (.c (.ro .u64))), (7, .u (.c (.int))), (8, .u (.c (.u64))), (9, .u (.c (.int)))], []⟩, .exit 0⟩),
    (10, ⟨⟨222, [(0, .u (.c (.ro .u64))), (1, .u (.c (.ro .u64))), (2, .u (.c (.ro .u64))), (7, .u (.c (.int))), (8, .u (.c (.u64))), (10, .u (.c (.row 11000000))), (11, .u (.c (.int)))], [(11000000, ⟨true, 0, 42, .vec .u64⟩)]⟩, .exit 2⟩),
    (14, ⟨⟨222, [(0, .u (.c (.ro .u64))), (1, .u (.c (.ro .u64))), (2, .u (.c (.ro .u64))), (7, .u (.c (.int))), (8, .u (.c (.u64))), (10, .u (.c (.row 15000000))), (11, .u (.c (.int))), (12, .u (.c (.u64))), (13, .u (.c (.int)))], [(15000000, ⟨true, 0, 42, .vec .u64⟩)]⟩, .exit 4⟩),
    (27, ⟨⟨222, [(0, .u (.c (.ro .u64))), (1, .u (.c (.ro .u64))), (2, .u (.c (.ro .u64))), (7, .u (.c (.int))), (8, .u (.c (.u64))), (10, .u (.c (.row 28000000))), (11, .u (.c (.int))), (12, .u (.c (.u64))), (21, .u (.c (.u64))), (24, .u (.c (.int)))], [(28000000, ⟨true, 0, 42, .vec .u64⟩)]⟩, .exit 6⟩)]
def zxp (N : Nat) : List (Nat × Sg) := [(163, g163 N), (164, sg3 kAdd), (168, g168 N), (214, g214 N)]
theorem zps (N : Nat) : zaS Try.prog pd.els (zxp N) := ⟨zo2 N, ⟨ziG, ⟨zkY N, ⟨zpp N, trivial⟩⟩⟩⟩
theorem zvg (N : Nat) : SgOK Try.prog pd.els 184 (g184 N) :=
  zaE zaU (zai (zps N)) Try.func184 (zat (by kernel_rfl)) [(K.ro .u64), (K.ro .u64), (K.ro .u64)] [(K.view .u64)] _ N zxo 4 fun x => by kernel_rfl
def p175 (N : Nat) (a0 : List UInt64) : Option (Fr × Unit) :=
  must (Nat.beq (List.length (zar [(0 : UInt64), (0 : UInt64), (0 : UInt64), (0 : UInt64)] (Int.toNat (0 : Int)) (List.take (Int.toNat ((↑(4 : Nat) : Int) - (0 : Int))) a0))) (4 : Nat)) (Option.bind (Fr.of? (zar [(0 : UInt64), (0 : UInt64), (0 : UInt64), (0 : UInt64)] (Int.toNat (0 : Int)) (List.take (Int.toNat ((↑(4 : Nat) : Int) - (0 : Int))) a0))) fun r0 => some ((r0, ())))
def g175 (N : Nat) : Sg := sgK [(K.ro .u64)] [K.fr] fun x => p175 N x.1
def zxq : List (Nat × Head) := [
    ]
def zxr (N : Nat) : List (Nat × Sg) := []
theorem zpt (N : Nat) : zaS Try.prog pd.els (zxr N) := trivial
theorem zk6 (N : Nat) : SgOK Try.prog pd.els 175 (g175 N) :=
  zaE zaU (zai (zpt N)) Try.func175 (zat (by kernel_rfl)) [(K.ro .u64)] [K.fr] _ N zxq 4 fun x => by kernel_rfl
def p94 (N : Nat) (a0 b1 : Fr) : Option (Fr × Unit) :=
  Option.bind (p88 N) fun r0 => Option.bind (p184 N (List.take (Int.toNat ((↑(4 : Nat) : Int) - (0 : Int))) [Fr.a0 a0, Fr.a1 a0, Fr.a2 a0, Fr.a3 a0]) (List.take (Int.toNat ((↑(4 : Nat) : Int) - (0 : Int))) [Fr.a0 b1, Fr.a1 b1, Fr.a2 b1, Fr.a3 b1]) r0.1) fun r1 => Option.bind (p184 N (List.take r1.1.length (List.drop (0 : Nat) r1.1)) ([(14526898881837571181 : UInt64), (3129137299524312099 : UInt64), (419701826671360399 : UInt64), (524908885293268753 : UInt64)]) r0.1) fun r2 => Option.bind (p175 N (List.take r2.1.length (List.drop (0 : Nat) r2.1))) fun r3 => some (({ a0 := Fr.a0 r3.1, a1 := Fr.a1 r3.1, a2 := Fr.a2 r3.1, a3 := Fr.a3 r3.1 }, ()))
def g94 (N : Nat) : Sg := sgK [K.fr, K.fr] [K.fr] fun x => p94 N x.1 x.2.1
def zAj : List (Nat × Head) := [
    ]
def zAk (N : Nat) : List (Nat × Sg) := [(88, g88 N), (184, g184 N), (175, g175 N)]
theorem zss (N : Nat) : zaS Try.prog pd.els (zAk N) := ⟨zmt N, ⟨zvg N, ⟨zk6 N, trivial⟩⟩⟩
theorem ztU (N : Nat) : SgOK Try.prog pd.els 94 (g94 N) :=
  zaE zaU (zai (zss N)) Try.func94 (zat (by kernel_rfl)) [K.fr, K.fr] [K.fr] _ N zAj 4 fun x => by kernel_rfl
def zvh (N : Nat) (A_3 : (List UInt64) -> Int -> (List UInt64) -> (List UInt64) -> (List UInt64) -> Option (Fr × Unit)) (e1 : List UInt64) (i6 : Int) (ob0 ob1 ob2 : List UInt64) : Option (Fr × Unit) :=
  let u1 := hide (wr (i6 - (1 : Int)))
  cond (hide (leI (0 : Int) i6)) (Option.bind (Option.bind (Option.bind (Fr.of? ob2) fun r1 => Option.bind (Option.bind (Fr.of? ob2) fun r2 => some ((r2, ()))) fun r3 => some ((r1, r3))) fun r4 => p94 N r4.1 (r4.2.1)) fun r5 => Option.bind (p162 N e1 i6) fun r6 => cond (hide (Prod.fst r6 == (1 : UInt64))) (Option.bind (Option.bind (Option.bind (Option.bind (Fr.of? ob0) fun r7 => some ((r7, ()))) fun r8 => some (({ a0 := Fr.a0 r5.1, a1 := Fr.a1 r5.1, a2 := Fr.a2 r5.1, a3 := Fr.a3 r5.1 }, r8))) fun r9 => p94 N r9.1 (r9.2.1)) fun r10 => A_3 e1 u1 ob0 ob1 ([Fr.a0 r10.1, Fr.a1 r10.1, Fr.a2 r10.1, Fr.a3 r10.1])) (A_3 e1 u1 ob0 ob1 ([Fr.a0 r5.1, Fr.a1 r5.1, Fr.a2 r5.1, Fr.a3 r5.1]))) (must (Nat.beq ob2.length (4 : Nat)) (Option.bind (Fr.of? ob2) fun r0 => some ((r0, ()))))
def zvi (N n : Nat) (e1 : List UInt64) (i6 : Int) (ob0 ob1 ob2 : List UInt64) : Option (Fr × Unit) :=
  zao (fun A x => zvh N (fun e1 i6 ob0 ob1 ob2 => A ((e1, ((), ((), ((), (i6, ()))))), (ob0, (ob1, (ob2, ()))))) x.1.1 x.1.2.2.2.2.1 x.2.1 x.2.2.1 x.2.2.2.1) n ((e1, ((), ((), ((), (i6, ()))))), (ob0, (ob1, (ob2, ()))))
def p73 (N : Nat) (a0 : Fr) (e1 : List UInt64) : Option (Fr × Unit) :=
  Option.bind (p173 N (1 : UInt64)) fun r0 => zvi N N e1 (hide (wr (hide (wr ((64 : Int) * (↑e1.length : Int))) - (1 : Int)))) ([Fr.a0 a0, Fr.a1 a0, Fr.a2 a0, Fr.a3 a0]) ([(0 : UInt64), (0 : UInt64), (0 : UInt64), (0 : UInt64)]) ([Fr.a0 r0.1, Fr.a1 r0.1, Fr.a2 r0.1, Fr.a3 r0.1])
def g73 (N : Nat) : Sg := sgK [K.fr, (K.ro .u64)] [K.fr] fun x => p73 N x.1 x.2.1
def zAl : List (Nat × Head) := [
    (3, ⟨⟨27, [(1, .u (.c (.ro .u64))), (2, .u (.c (.ptr0 4000000 0))), (4, .u (.c (.ptr0 4000001 0))), (5, .u (.c (.ptr0 4000002 0))), (6, .u (.c (.int)))], [(4000000, ⟨false, 4, 53, .vec .u64⟩), (4000001, ⟨false, 4, 53, .vec .u64⟩), (4000002, ⟨false, 4, 53, .vec .u64⟩)]⟩, .exit 0⟩)]
def zAm (N : Nat) : List (Nat × Sg) := [(173, g173 N), (94, g94 N), (162, g162 N)]
theorem zst (N : Nat) : zaS Try.prog pd.els (zAm N) := ⟨zkZ N, ⟨ztU N, ⟨zu8 N, trivial⟩⟩⟩
theorem zxs (N : Nat) : SgOK Try.prog pd.els 73 (g73 N) :=
  zaE zaU (zai (zst N)) Try.func73 (zat (by kernel_rfl)) [K.fr, (K.ro .u64)] [K.fr] _ N zAl 4 fun x => by kernel_rfl
def zpu (N : Nat) (A_4 : (List UInt64) -> (List UInt64) -> (List UInt64) -> UInt64 -> Int -> (List UInt64) -> Option (List UInt64 × Unit)) (a0 b1 m2 : List UInt64) (c8 : UInt64) (i9 : Int) (t7o : List UInt64) : Option (List UInt64 × Unit) :=
  let u1 := ltN (0 : Nat) t7o.length
  cond (hide (ltI i9 (↑m2.length : Int))) (must (leI (0 : Int) i9 && ltI i9 (↑a0.length : Int)) (must (leI (0 : Int) i9 && ltI i9 (↑b1.length : Int)) (Option.bind (kAdd (List.getD a0 i9.toNat (0 : UInt64)) (List.getD b1 i9.toNat (0 : UInt64)) c8) fun r3 => must (leI (0 : Int) i9 && ltI i9 (↑t7o.length : Int)) (A_4 a0 b1 m2 r3.2 (hide (wr (i9 + (1 : Int)))) (setL t7o i9.toNat r3.1))))) (cond (hide (c8 == (1 : UInt64))) (must u1 (Option.bind (p214 N t7o m2) fun r2 => must (Nat.beq r2.1.length t7o.length) (some ((Prod.fst r2, ()))))) (Option.bind (p168 N t7o m2) fun r0 => cond (hide !r0.1) (must u1 (Option.bind (p214 N t7o m2) fun r1 => must (Nat.beq r1.1.length t7o.length) (some ((Prod.fst r1, ()))))) (some ((t7o, ())))))
def zpv (N n : Nat) (a0 b1 m2 : List UInt64) (c8 : UInt64) (i9 : Int) (t7o : List UInt64) : Option (List UInt64 × Unit) :=
  zao (fun A x => zpu N (fun a0 b1 m2 c8 i9 t7o => A ((a0, (b1, (m2, ((), (c8, (i9, ())))))), (t7o, ()))) x.1.1 x.1.2.1 x.1.2.2.1 x.1.2.2.2.2.1 x.1.2.2.2.2.2.1 x.2.1) n ((a0, (b1, (m2, ((), (c8, (i9, ())))))), (t7o, ()))
def p176 (N : Nat) (a0 b1 m2 : List UInt64) : Option (List UInt64 × Unit) :=
  must (eqI (↑m2.length : Int) (↑m2.length : Int) && leN (Int.toNat (↑m2.length : Int) * (8 : Nat)) (140737488355328 : Nat)) (zpv N N a0 b1 m2 (0 : UInt64) (0 : Int) (List.replicate (Int.toNat (↑m2.length : Int)) (0 : UInt64)))
def g176 (N : Nat) : Sg := sgK [(K.ro .u64), (K.ro .u64), (K.ro .u64)] [(K.ro .u64)] fun x => p176 N x.1 x.2.1 x.2.2.1
def zxt : List (Nat × Head) := [
    (4, ⟨⟨47, [(0, .u (.c (.ro .u64))), (1, .u (.c (.ro .u64))), (2, .u (.c (.ro .u64))), (7, .u (.c (.row 5000000))), (8, .u (.c (.u64))), (9, .u (.c (.int)))], [(5000000, ⟨true, 0, 42, .vec .u64⟩)]⟩, .exit 0⟩)]
def zxu (N : Nat) : List (Nat × Sg) := [(164, sg3 kAdd), (168, g168 N), (214, g214 N)]
theorem zpw (N : Nat) : zaS Try.prog pd.els (zxu N) := ⟨ziG, ⟨zkY N, ⟨zpp N, trivial⟩⟩⟩
theorem zvj (N : Nat) : SgOK Try.prog pd.els 176 (g176 N) :=
  zaE zaU (zai (zpw N)) Try.func176 (zat (by kernel_rfl)) [(K.ro .u64), (K.ro .u64), (K.ro .u64)] [(K.ro .u64)] _ N zxt 4 fun x => by kernel_rfl
def p81 (N : Nat) (a0 b1 : Fr) : Option (Fr × Unit) :=
  Option.bind (p88 N) fun r0 => Option.bind (p176 N (List.take (Int.toNat ((↑(4 : Nat) : Int) - (0 : Int))) [Fr.a0 a0, Fr.a1 a0, Fr.a2 a0, Fr.a3 a0]) (List.take (Int.toNat ((↑(4 : Nat) : Int) - (0 : Int))) [Fr.a0 b1, Fr.a1 b1, Fr.a2 b1, Fr.a3 b1]) r0.1) fun r1 => Option.bind (p175 N r1.1) fun r2 => some (({ a0 := Fr.a0 r2.1, a1 := Fr.a1 r2.1, a2 := Fr.a2 r2.1, a3 := Fr.a3 r2.1 }, ()))
def g81 (N : Nat) : Sg := sgK [K.fr, K.fr] [K.fr] fun x => p81 N x.1 x.2.1
def zAn : List (Nat × Head) := [
    ]
def zAo (N : Nat) : List (Nat × Sg) := [(88, g88 N), (176, g176 N), (175, g175 N)]
theorem zsu (N : Nat) : zaS Try.prog pd.els (zAo N) := ⟨zmt N, ⟨zvj N, ⟨zk6 N, trivial⟩⟩⟩
theorem zxv (N : Nat) : SgOK Try.prog pd.els 81 (g81 N) :=
  zaE zaU (zai (zsu N)) Try.func81 (zat (by kernel_rfl)) [K.fr, K.fr] [K.fr] _ N zAn 4 fun x => by kernel_rfl
def zk7 (N : Nat) (A_10 : (List UInt64) -> UInt64 -> Int -> (List UInt64) -> Option (List UInt64 × Unit)) (m2 : List UInt64) (c8 : UInt64) (i10 : Int) (t7o : List UInt64) : Option (List UInt64 × Unit) :=
  cond (hide (ltI i10 (↑m2.length : Int))) (must (leI (0 : Int) i10 && ltI i10 (↑t7o.length : Int)) (must (leI (0 : Int) i10 && ltI i10 (↑m2.length : Int)) (Option.bind (kAdd (List.getD t7o i10.toNat (0 : UInt64)) (List.getD m2 i10.toNat (0 : UInt64)) c8) fun r0 => must (leI (0 : Int) i10 && ltI i10 (↑t7o.length : Int)) (A_10 m2 r0.2 (hide (wr (i10 + (1 : Int)))) (setL t7o i10.toNat r0.1))))) (some ((t7o, ())))
def zk8 (N n : Nat) (m2 : List UInt64) (c8 : UInt64) (i10 : Int) (t7o : List UInt64) : Option (List UInt64 × Unit) :=
  zao (fun A x => zk7 N (fun m2 c8 i10 t7o => A ((m2, ((), (c8, (i10, ())))), (t7o, ()))) x.1.1 x.1.2.2.1 x.1.2.2.2.1 x.2.1) n ((m2, ((), (c8, (i10, ())))), (t7o, ()))
def zpx (N : Nat) (A_4 : (List UInt64) -> (List UInt64) -> (List UInt64) -> UInt64 -> Int -> (List UInt64) -> Option (List UInt64 × Unit)) (a0 b1 m2 : List UInt64) (c8 : UInt64) (i9 : Int) (t7o : List UInt64) : Option (List UInt64 × Unit) :=
  cond (hide (ltI i9 (↑m2.length : Int))) (must (leI (0 : Int) i9 && ltI i9 (↑a0.length : Int)) (must (leI (0 : Int) i9 && ltI i9 (↑b1.length : Int)) (Option.bind (kSub (List.getD a0 i9.toNat (0 : UInt64)) (List.getD b1 i9.toNat (0 : UInt64)) c8) fun r0 => must (leI (0 : Int) i9 && ltI i9 (↑t7o.length : Int)) (A_4 a0 b1 m2 r0.2 (hide (wr (i9 + (1 : Int)))) (setL t7o i9.toNat r0.1))))) (cond (hide (c8 == (1 : UInt64))) (zk8 N N m2 (0 : UInt64) (0 : Int) t7o) (some ((t7o, ()))))
def zpy (N n : Nat) (a0 b1 m2 : List UInt64) (c8 : UInt64) (i9 : Int) (t7o : List UInt64) : Option (List UInt64 × Unit) :=
  zao (fun A x => zpx N (fun a0 b1 m2 c8 i9 t7o => A ((a0, (b1, (m2, ((), (c8, (i9, ())))))), (t7o, ()))) x.1.1 x.1.2.1 x.1.2.2.1 x.1.2.2.2.2.1 x.1.2.2.2.2.2.1 x.2.1) n ((a0, (b1, (m2, ((), (c8, (i9, ())))))), (t7o, ()))
def p177 (N : Nat) (a0 b1 m2 : List UInt64) : Option (List UInt64 × Unit) :=
  must (eqI (↑m2.length : Int) (↑m2.length : Int) && leN (Int.toNat (↑m2.length : Int) * (8 : Nat)) (140737488355328 : Nat)) (zpy N N a0 b1 m2 (0 : UInt64) (0 : Int) (List.replicate (Int.toNat (↑m2.length : Int)) (0 : UInt64)))
def g177 (N : Nat) : Sg := sgK [(K.ro .u64), (K.ro .u64), (K.ro .u64)] [(K.ro .u64)] fun x => p177 N x.1 x.2.1 x.2.2.1
def zxw : List (Nat × Head) := [
    (4, ⟨⟨61, [(0, .u (.c (.ro .u64))), (1, .u (.c (.ro .u64))), (2, .u (.c (.ro .u64))), (7, .u (.c (.row 5000000))), (8, .u (.c (.u64))), (9, .u (.c (.int)))], [(5000000, ⟨true, 0, 42, .vec .u64⟩)]⟩, .exit 0⟩),
    (10, ⟨⟨61, [(2, .u (.c (.ro .u64))), (7, .u (.c (.row 11000000))), (8, .u (.c (.u64))), (10, .u (.c (.int)))], [(11000000, ⟨true, 0, 42, .vec .u64⟩)]⟩, .exit 2⟩)]
def zxx (N : Nat) : List (Nat × Sg) := [(159, sg3 kSub), (164, sg3 kAdd)]
theorem zpz (N : Nat) : zaS Try.prog pd.els (zxx N) := ⟨zkV, ⟨ziG, trivial⟩⟩
theorem zvk (N : Nat) : SgOK Try.prog pd.els 177 (g177 N) :=
  zaE zaU (zai (zpz N)) Try.func177 (zat (by kernel_rfl)) [(K.ro .u64), (K.ro .u64), (K.ro .u64)] [(K.ro .u64)] _ N zxw 4 fun x => by kernel_rfl
def p83 (N : Nat) (a0 b1 : Fr) : Option (Fr × Unit) :=
  Option.bind (p88 N) fun r0 => Option.bind (p177 N (List.take (Int.toNat ((↑(4 : Nat) : Int) - (0 : Int))) [Fr.a0 a0, Fr.a1 a0, Fr.a2 a0, Fr.a3 a0]) (List.take (Int.toNat ((↑(4 : Nat) : Int) - (0 : Int))) [Fr.a0 b1, Fr.a1 b1, Fr.a2 b1, Fr.a3 b1]) r0.1) fun r1 => Option.bind (p175 N r1.1) fun r2 => some (({ a0 := Fr.a0 r2.1, a1 := Fr.a1 r2.1, a2 := Fr.a2 r2.1, a3 := Fr.a3 r2.1 }, ()))
def g83 (N : Nat) : Sg := sgK [K.fr, K.fr] [K.fr] fun x => p83 N x.1 x.2.1
def zAp : List (Nat × Head) := [
    ]
def zAq (N : Nat) : List (Nat × Sg) := [(88, g88 N), (177, g177 N), (175, g175 N)]
theorem zsv (N : Nat) : zaS Try.prog pd.els (zAq N) := ⟨zmt N, ⟨zvk N, ⟨zk6 N, trivial⟩⟩⟩
theorem zxy (N : Nat) : SgOK Try.prog pd.els 83 (g83 N) :=
  zaE zaU (zai (zsv N)) Try.func83 (zat (by kernel_rfl)) [K.fr, K.fr] [K.fr] _ N zAp 4 fun x => by kernel_rfl
def p85 (N : Nat) (a0 : Fr) : Option (Fr × Unit) :=
  Option.bind (p83 N ({ a0 := (0 : UInt64), a1 := (0 : UInt64), a2 := (0 : UInt64), a3 := (0 : UInt64) }) ({ a0 := Fr.a0 a0, a1 := Fr.a1 a0, a2 := Fr.a2 a0, a3 := Fr.a3 a0 })) fun r0 => some (({ a0 := Fr.a0 r0.1, a1 := Fr.a1 r0.1, a2 := Fr.a2 r0.1, a3 := Fr.a3 r0.1 }, ()))
def g85 (N : Nat) : Sg := sgK [K.fr] [K.fr] fun x => p85 N x.1
def zAr : List (Nat × Head) := [
    ]
def zAs (N : Nat) : List (Nat × Sg) := [(83, g83 N)]
theorem zsw (N : Nat) : zaS Try.prog pd.els (zAs N) := ⟨zxy N, trivial⟩
theorem zxz (N : Nat) : SgOK Try.prog pd.els 85 (g85 N) :=
  zaE zaU (zai (zsw N)) Try.func85 (zat (by kernel_rfl)) [K.fr] [K.fr] _ N zAr 4 fun x => by kernel_rfl
end
section
def p195 (N : Nat) (at0 : Int) (w1 : List Int) : Option (Row × Unit) :=
  let u10 := (0 : Nat) + (1 : Nat) + (1 : Nat)
  let u1 := List.getD w1 u10 (0 : Int)
  let u2 := Fr.zero
  let u3 := List.getD w1 ((0 : Nat) + (1 : Nat)) (0 : Int)
  let u4 := List.getD w1 (0 : Nat) (0 : Int)
  let u5 := eqI at0 (↑((0 : Nat) + (1 : Nat) + (1 : Nat) + (1 : Nat) + (1 : Nat) + (1 : Nat) + (1 : Nat) + (1 : Nat)) : Int)
  let u6 := eqI at0 (↑((0 : Nat) + (1 : Nat) + (1 : Nat) + (1 : Nat) + (1 : Nat) + (1 : Nat) + (1 : Nat)) : Int)
  let u7 := eqI at0 (↑((0 : Nat) + (1 : Nat) + (1 : Nat) + (1 : Nat) + (1 : Nat) + (1 : Nat)) : Int)
  let u8 := eqI at0 (↑((0 : Nat) + (1 : Nat) + (1 : Nat) + (1 : Nat) + (1 : Nat)) : Int)
  let u9 := eqI at0 (↑((0 : Nat) + (1 : Nat) + (1 : Nat) + (1 : Nat)) : Int)
  let u11 := eqI at0 (↑((0 : Nat) + (1 : Nat)) : Int)
  let u12 := eqI at0 (↑(0 : Nat) : Int)
  must (leI (↑(3 : Nat) : Int) (↑w1.length : Int)) (must (leN ((0 : Nat) + (3 : Nat)) w1.length) (Option.bind (p75 N (1 : UInt64)) fun rr0 => cond u12 (must u12 (some ((Row.mk (rr0.1) u2 u2 u2 u2 u2 u2 u2 u4 u3 u1, ())))) (cond u11 (must u11 (some ((Row.mk u2 (rr0.1) u2 u2 u2 u2 u2 u2 u4 u3 u1, ())))) (cond (eqI at0 (↑u10 : Int)) (must (eqI at0 (↑u10 : Int)) (some ((Row.mk u2 u2 (rr0.1) u2 u2 u2 u2 u2 u4 u3 u1, ())))) (cond u9 (must u9 (some ((Row.mk u2 u2 u2 (rr0.1) u2 u2 u2 u2 u4 u3 u1, ())))) (cond u8 (must u8 (some ((Row.mk u2 u2 u2 u2 (rr0.1) u2 u2 u2 u4 u3 u1, ())))) (cond u7 (must u7 (some ((Row.mk u2 u2 u2 u2 u2 (rr0.1) u2 u2 u4 u3 u1, ())))) (cond u6 (must u6 (some ((Row.mk u2 u2 u2 u2 u2 u2 (rr0.1) u2 u4 u3 u1, ())))) (must u5 (must u5 (some ((Row.mk u2 u2 u2 u2 u2 u2 u2 (rr0.1) u4 u3 u1, ())))))))))))))
def g195 (N : Nat) : Sg := sgK [K.int, (K.ro .int)] [(K.st .row)] fun x => p195 N x.1 x.2.1
def zxA : List (Nat × Head) := [
    ]
def zxB (N : Nat) : List (Nat × Sg) := [(75, g75 N)]
theorem zpA (N : Nat) : zaS Try.prog pd.els (zxB N) := ⟨zo4 N, trivial⟩
theorem zvl (N : Nat) : SgOK Try.prog pd.els 195 (g195 N) :=
  zaE zaU (zai (zpA N)) Try.func195 (zat (by kernel_rfl)) [K.int, (K.ro .int)] [(K.st .row)] _ N zxA 4 fun x => by kernel_rfl
def p108 (N : Nat) (s0 : Stp) : Option (List Row × Int × Unit) :=
  let u2 := Fr.zero
  let u1 := some (([Row.mk (s0.q0) (s0.q1) (s0.q2) (s0.q3) (s0.q4) u2 u2 u2 (mxI s0.v0 (-1 : Int)) (mxI s0.v1 (-1 : Int)) (mxI s0.v2 (-1 : Int))], (0 : Int), ()))
  let u3 := [Stp.v0 s0, (-1 : Int), (-1 : Int)]
  let u4 := p195 N (6 : Int) ([Stp.v0 s0, (-1 : Int), Stp.v2 s0])
  let u5 := p195 N (7 : Int) ([Stp.v0 s0, Stp.v1 s0, (-1 : Int)])
  let u6 := hide (eqI s0.kind (1 : Int))
  let u7 := hide (eqI s0.kind (2 : Int))
  let u8 := hide (eqI s0.kind (3 : Int))
  let u9 := hide (eqI s0.kind (4 : Int))
  let u10 := hide (eqI s0.kind (5 : Int))
  let u11 := hide (eqI s0.kind (7 : Int))
  let u12 := some (([], (11 : Int), ()))
  let u13 := some (([], (0 : Int), ()))
  cond u6 (cond u6 u13 (cond u7 u1 (cond u8 (Option.bind (p195 N (5 : Int) u3) fun rr7 => some (([rr7.1], (0 : Int), ()))) (cond u9 (Option.bind u4 fun rr6 => some (([rr6.1], (0 : Int), ()))) (cond u10 (Option.bind u5 fun rr5 => some (([rr5.1, Row.mk u2 u2 u2 u2 u2 u2 u2 u2 s0.v2 (-1 : Int) (-1 : Int)], (0 : Int), ()))) (cond u11 (Option.bind (p195 N (1 : Int) u3) fun rr4 => some (([rr4.1], (0 : Int), ()))) u12)))))) (cond (hide (eqI s0.kind (6 : Int))) u13 (cond u7 u1 (cond u8 (Option.bind (p195 N (5 : Int) u3) fun rr3 => some (([rr3.1], (0 : Int), ()))) (cond u9 (Option.bind u4 fun rr2 => some (([rr2.1], (0 : Int), ()))) (cond u10 (Option.bind u5 fun rr1 => some (([rr1.1, Row.mk u2 u2 u2 u2 u2 u2 u2 u2 s0.v2 (-1 : Int) (-1 : Int)], (0 : Int), ()))) (cond u11 (Option.bind (p195 N (1 : Int) u3) fun rr0 => some (([rr0.1], (0 : Int), ()))) u12))))))
def g108 (N : Nat) : Sg := sgK [(K.st .step)] [(K.ro .row), K.int] fun x => p108 N x.1
def zxC : List (Nat × Head) := [
    ]
def zxD (N : Nat) : List (Nat × Sg) := [(195, g195 N)]
theorem zpB (N : Nat) : zaS Try.prog pd.els (zxD N) := ⟨zvl N, trivial⟩
theorem zvm (N : Nat) : SgOK Try.prog pd.els 108 (g108 N) :=
  zaE zaU (zai (zpB N)) Try.func108 (zat (by kernel_rfl)) [(K.st .step)] [(K.ro .row), K.int] _ N zxC 4 fun x => by kernel_rfl
end
section
def p204 (N : Nat) (log0 : Int) : Option (Bool × Unit) :=
  cond (hide (leI (1 : Int) log0)) (some ((hide (leI log0 (6 : Int)), ()))) (some ((false, ())))
def g204 (N : Nat) : Sg := sgK [K.int] [K.bool] fun x => p204 N x.1
def zxE : List (Nat × Head) := [
    ]
def zxF (N : Nat) : List (Nat × Sg) := []
theorem zpC (N : Nat) : zaS Try.prog pd.els (zxF N) := trivial
theorem zpD (N : Nat) : SgOK Try.prog pd.els 204 (g204 N) :=
  zaE zaU (zai (zpC N)) Try.func204 (zat (by kernel_rfl)) [K.int] [K.bool] _ N zxE 4 fun x => by kernel_rfl
def p136 (N : Nat) (log0 cell1 : Int) : Option (Fr × Int × Unit) :=
  let u3 := UInt64.toNat (hide (u64I log0))
  let u1 := hide (shlI (1 : Int) u3)
  let u2 := some ((Fr.mk (0 : UInt64) (0 : UInt64) (0 : UInt64) (0 : UInt64), (1 : Int), ()))
  Option.bind (p204 N log0) fun r0 => cond (hide !r0.1) u2 (cond (hide (ltI cell1 (0 : Int))) u2 (cond (hide (leI (hide (shlI (3 : Int) u3)) cell1)) u2 (Option.bind (p77 N log0) fun r1 => Option.bind (p75 N (7 : UInt64)) fun r2 => must (!eqI u1 (0 : Int)) (Option.bind (p72 N (Fr.mk r2.1.a0 r2.1.a1 r2.1.a2 r2.1.a3) ([hide (u64I (hide (wr (Int.tdiv cell1 u1))))])) fun r3 => must (!eqI u1 (0 : Int)) (Option.bind (p72 N (Fr.mk r1.1.a0 r1.1.a1 r1.1.a2 r1.1.a3) ([hide (u64I (hide (Int.tmod cell1 u1)))])) fun r4 => Option.bind (p76 N (Fr.mk r3.1.a0 r3.1.a1 r3.1.a2 r3.1.a3) (Fr.mk r4.1.a0 r4.1.a1 r4.1.a2 r4.1.a3)) fun r5 => some ((Fr.mk r5.1.a0 r5.1.a1 r5.1.a2 r5.1.a3, (0 : Int), ())))))))
def g136 (N : Nat) : Sg := sgK [K.int, K.int] [K.fr, K.int] fun x => p136 N x.1 x.2.1
def zxG : List (Nat × Head) := [
    ]
def zxH (N : Nat) : List (Nat × Sg) := [(204, g204 N), (77, g77 N), (75, g75 N), (72, g72 N), (76, g76 N)]
theorem zpE (N : Nat) : zaS Try.prog pd.els (zxH N) := ⟨zpD N, ⟨zxe N, ⟨zo4 N, ⟨ztT N, ⟨zxf N, trivial⟩⟩⟩⟩⟩
theorem zvn (N : Nat) : SgOK Try.prog pd.els 136 (g136 N) :=
  zaE zaU (zai (zpE N)) Try.func136 (zat (by kernel_rfl)) [K.int, K.int] [K.fr, K.int] _ N zxG 4 fun x => by kernel_rfl
end
section
def zrow : Row := Row.mk Fr.zero Fr.zero Fr.zero Fr.zero Fr.zero Fr.zero Fr.zero Fr.zero (0 : Int) (0 : Int) (0 : Int)
def zbj (x y : Row) : Bool := Fr.a0 x.q0 == Fr.a0 y.q0 && (Fr.a1 x.q0 == Fr.a1 y.q0 && (Fr.a2 x.q0 == Fr.a2 y.q0 && (Fr.a3 x.q0 == Fr.a3 y.q0 && true))) && (Fr.a0 x.q1 == Fr.a0 y.q1 && (Fr.a1 x.q1 == Fr.a1 y.q1 && (Fr.a2 x.q1 == Fr.a2 y.q1 && (Fr.a3 x.q1 == Fr.a3 y.q1 && true))) && (Fr.a0 x.q2 == Fr.a0 y.q2 && (Fr.a1 x.q2 == Fr.a1 y.q2 && (Fr.a2 x.q2 == Fr.a2 y.q2 && (Fr.a3 x.q2 == Fr.a3 y.q2 && true))) && (Fr.a0 x.q3 == Fr.a0 y.q3 && (Fr.a1 x.q3 == Fr.a1 y.q3 && (Fr.a2 x.q3 == Fr.a2 y.q3 && (Fr.a3 x.q3 == Fr.a3 y.q3 && true))) && (Fr.a0 x.q4 == Fr.a0 y.q4 && (Fr.a1 x.q4 == Fr.a1 y.q4 && (Fr.a2 x.q4 == Fr.a2 y.q4 && (Fr.a3 x.q4 == Fr.a3 y.q4 && true))) && (Fr.a0 x.q5 == Fr.a0 y.q5 && (Fr.a1 x.q5 == Fr.a1 y.q5 && (Fr.a2 x.q5 == Fr.a2 y.q5 && (Fr.a3 x.q5 == Fr.a3 y.q5 && true))) && (Fr.a0 x.q6 == Fr.a0 y.q6 && (Fr.a1 x.q6 == Fr.a1 y.q6 && (Fr.a2 x.q6 == Fr.a2 y.q6 && (Fr.a3 x.q6 == Fr.a3 y.q6 && true))) && (Fr.a0 x.q7 == Fr.a0 y.q7 && (Fr.a1 x.q7 == Fr.a1 y.q7 && (Fr.a2 x.q7 == Fr.a2 y.q7 && (Fr.a3 x.q7 == Fr.a3 y.q7 && true))) && true))))))) && (eqI x.w0 y.w0 && (eqI x.w1 y.w1 && (eqI x.w2 y.w2 && true)) && true)
end
end Go.Proofs.Ytgimohchocjgcaa.V
