import Derived.Test.YtgimohchocjgcaaVTM
import Derived.KernelRfl
set_option linter.unusedVariables false
set_option linter.unusedSimpArgs false
namespace Go.Proofs.Ytgimohchocjgcaa.V
def p75 (N : Nat) (n0 : UInt64) : Option (Fr × Unit) :=
 some (({ a0 := n0, a1 := (0 : UInt64), a2 := (0 : UInt64), a3 := (0 : UInt64) }, ()))
def g75 (N : Nat) : Sg := sgK [K.u64] [K.fr] fun x => p75 N x.1
def zDv : List (Nat × Head) := [
  ]
def zDw (N : Nat) : List (Nat × Sg) := []
theorem zuz (N : Nat) : zaK Try.prog pd.els (zDw N) := trivial
theorem zwr (N : Nat) : SgOK Try.prog pd.els 75 (g75 N) :=
 zaD zaN (zaj (zuz N)) Try.func75 (zap (by kernel_rfl)) [K.u64] [K.fr] _ N zDv 4 fun x => by kernel_rfl
def p169 (N : Nat) : Option (Fr × Unit) :=
 some (({ a0 := (18446744069414584321 : UInt64), a1 := (6034159408538082302 : UInt64), a2 := (3691218898639771653 : UInt64), a3 := (8353516859464449352 : UInt64) }, ()))
def g169 (N : Nat) : Sg := sgK [] [K.fr] fun x => p169 N
def zz4 : List (Nat × Head) := [
  ]
def zz5 (N : Nat) : List (Nat × Sg) := []
theorem zql (N : Nat) : zaK Try.prog pd.els (zz5 N) := trivial
theorem zjD (N : Nat) : SgOK Try.prog pd.els 169 (g169 N) :=
 zaD zaN (zaj (zql N)) Try.func169 (zap (by kernel_rfl)) [] [K.fr] _ N zz4 4 fun x => by kernel_rfl
def p213 (N : Nat) : Option (Fr × Unit) :=
 some (({ a0 := (14526898881837571181 : UInt64), a1 := (3129137299524312099 : UInt64), a2 := (419701826671360399 : UInt64), a3 := (524908885293268753 : UInt64) }, ()))
def g213 (N : Nat) : Sg := sgK [] [K.fr] fun x => p213 N
def zz6 : List (Nat × Head) := [
  ]
def zz7 (N : Nat) : List (Nat × Sg) := []
theorem zqm (N : Nat) : zaK Try.prog pd.els (zz7 N) := trivial
theorem zxT (N : Nat) : SgOK Try.prog pd.els 213 (g213 N) :=
 zaD zaN (zaj (zqm N)) Try.func213 (zap (by kernel_rfl)) [] [K.fr] _ N zz6 4 fun x => by kernel_rfl
def zqn (N : Nat) (A_5 : UInt64 -> UInt64 -> Int -> (List UInt64) -> (List UInt64) -> (List UInt64) -> (List UInt64) -> Option (Fr × Unit)) (over1 borrow7 : UInt64) (t10 : Int) (ob0 ob1 ob2 ob3 : List UInt64) : Option (Fr × Unit) :=
 cond (hide (ltI t10 (4 : Int))) (must (leI (0 : Int) t10 && ltI t10 (↑(4 : Nat) : Int)) (must (leI (0 : Int) t10 && ltI t10 (↑(4 : Nat) : Int)) (Option.bind (kSub (List.getD ob0 t10.toNat (0 : UInt64)) (List.getD ob2 t10.toNat (0 : UInt64)) borrow7) fun r2 => must (leI (0 : Int) t10 && ltI t10 (↑(4 : Nat) : Int)) (A_5 over1 r2.2 (hide (wr (t10 + (1 : Int)))) ob0 ob1 ob2 (setL ob3 t10.toNat r2.1))))) (cond (hide (ltN over1.toNat borrow7.toNat)) (must (Nat.beq ob0.length (4 : Nat)) (Option.bind (Fr.of? ob0) fun r1 => some ((r1, ())))) (must (Nat.beq ob3.length (4 : Nat)) (Option.bind (Fr.of? ob3) fun r0 => some ((r0, ())))))
def zqo (N n : Nat) (over1 borrow7 : UInt64) (t10 : Int) (ob0 ob1 ob2 ob3 : List UInt64) : Option (Fr × Unit) :=
 zan (fun A x => zqn N (fun over1 borrow7 t10 ob0 ob1 ob2 ob3 => A ((over1, ((), ((), ((), ((), (borrow7, (t10, ()))))))), (ob0, (ob1, (ob2, (ob3, ())))))) x.1.1 x.1.2.2.2.2.2.1 x.1.2.2.2.2.2.2.1 x.2.1 x.2.2.1 x.2.2.2.1 x.2.2.2.2.1) n ((over1, ((), ((), ((), ((), (borrow7, (t10, ()))))))), (ob0, (ob1, (ob2, (ob3, ())))))
def p174 (N : Nat) (a0 : Fr) (over1 : UInt64) : Option (Fr × Unit) :=
 Option.bind (p169 N) fun r0 => zqo N N over1 (0 : UInt64) (0 : Int) ([Fr.a0 a0, Fr.a1 a0, Fr.a2 a0, Fr.a3 a0]) ([(0 : UInt64), (0 : UInt64), (0 : UInt64), (0 : UInt64)]) ([Fr.a0 r0.1, Fr.a1 r0.1, Fr.a2 r0.1, Fr.a3 r0.1]) ([(0 : UInt64), (0 : UInt64), (0 : UInt64), (0 : UInt64)])
def g174 (N : Nat) : Sg := sgK [K.fr, K.u64] [K.fr] fun x => p174 N x.1 x.2.1
def zz8 : List (Nat × Head) := [
  (5, ⟨⟨32, [(1, .u (.c (.u64))), (2, .u (.c (.ptr0 6000000 0))), (4, .u (.c (.ptr0 6000001 0))), (5, .u (.c (.ptr0 6000002 0))), (6, .u (.c (.ptr0 6000003 0))), (7, .u (.c (.u64))), (10, .u (.c (.int)))], [(6000000, ⟨false, 4, 53, .vec .u64⟩), (6000001, ⟨false, 4, 53, .vec .u64⟩), (6000002, ⟨false, 4, 53, .vec .u64⟩), (6000003, ⟨false, 4, 53, .vec .u64⟩)]⟩, .exit 0⟩)]
def zz9 (N : Nat) : List (Nat × Sg) := [(169, g169 N), (159, sg3 kSub)]
theorem zqp (N : Nat) : zaK Try.prog pd.els (zz9 N) := ⟨zjD N, ⟨zjA, trivial⟩⟩
theorem zqq (N : Nat) : SgOK Try.prog pd.els 174 (g174 N) :=
 zaD zaN (zaj (zqp N)) Try.func174 (zap (by kernel_rfl)) [K.fr, K.u64] [K.fr] _ N zz8 4 fun x => by kernel_rfl
def zlS (N : Nat) (A_4 : Int -> (List UInt64) -> (List UInt64) -> (List UInt64) -> (List UInt64) -> (List UInt64) -> Option (Fr × Unit)) (A_22 : UInt64 -> UInt64 -> UInt64 -> UInt64 -> Int -> Int -> (List UInt64) -> (List UInt64) -> (List UInt64) -> (List UInt64) -> (List UInt64) -> Option (Fr × Unit)) (c8 top13 more14 x15 : UInt64) (j16 t18 : Int) (ob0 ob1 ob2 ob3 ob4 : List UInt64) : Option (Fr × Unit) :=
 let u1 := hide (wr (j16 - (1 : Int)))
 cond (hide (ltI j16 (4 : Int))) (must (leI (0 : Int) j16 && ltI j16 (↑(4 : Nat) : Int)) (Option.bind (p163 N x15 (List.getD ob3 j16.toNat (0 : UInt64))) fun r1 => must (leI (0 : Int) j16 && ltI j16 (↑(5 : Nat) : Int)) (Option.bind (kAdd (r1.2.1) (List.getD ob4 j16.toNat (0 : UInt64)) (0 : UInt64)) fun r2 => Option.bind (kAdd r2.1 c8 (0 : UInt64)) fun r3 => must (leI (0 : Int) u1 && ltI u1 (↑(5 : Nat) : Int)) (A_22 (hide (hide (Prod.fst r1 + Prod.snd r2) + Prod.snd r3)) top13 more14 x15 (hide (wr (j16 + (1 : Int)))) t18 ob0 ob1 ob2 ob3 (setL ob4 (Int.toNat u1) r3.1))))) (Option.bind (kAdd top13 c8 (0 : UInt64)) fun r0 => A_4 (hide (wr (t18 + (1 : Int)))) ob0 ob1 ob2 ob3 (setL (setL ob4 (3 : Nat) r0.1) (4 : Nat) (hide (more14 + Prod.snd r0))))
def zlT (N : Nat) (A_4 : Int -> (List UInt64) -> (List UInt64) -> (List UInt64) -> (List UInt64) -> (List UInt64) -> Option (Fr × Unit)) (n : Nat) (c8 top13 more14 x15 : UInt64) (j16 t18 : Int) (ob0 ob1 ob2 ob3 ob4 : List UInt64) : Option (Fr × Unit) :=
 zan (fun A x => zlS N A_4 (fun c8 top13 more14 x15 j16 t18 ob0 ob1 ob2 ob3 ob4 => A (((), ((), ((), ((), ((), (c8, (top13, (more14, (x15, (j16, (t18, ()))))))))))), (ob0, (ob1, (ob2, (ob3, (ob4, ()))))))) x.1.2.2.2.2.2.1 x.1.2.2.2.2.2.2.1 x.1.2.2.2.2.2.2.2.1 x.1.2.2.2.2.2.2.2.2.1 x.1.2.2.2.2.2.2.2.2.2.1 x.1.2.2.2.2.2.2.2.2.2.2.1 x.2.1 x.2.2.1 x.2.2.2.1 x.2.2.2.2.1 x.2.2.2.2.2.1) n (((), ((), ((), ((), ((), (c8, (top13, (more14, (x15, (j16, (t18, ()))))))))))), (ob0, (ob1, (ob2, (ob3, (ob4, ()))))))
def zqr (N : Nat) (A_4 : Int -> (List UInt64) -> (List UInt64) -> (List UInt64) -> (List UInt64) -> (List UInt64) -> Option (Fr × Unit)) (A_8 : Int -> UInt64 -> Int -> Int -> (List UInt64) -> (List UInt64) -> (List UInt64) -> (List UInt64) -> (List UInt64) -> Option (Fr × Unit)) (i7 : Int) (c8 : UInt64) (t18 t21 : Int) (ob0 ob1 ob2 ob3 ob4 : List UInt64) : Option (Fr × Unit) :=
 let u1 := hide (List.getD ob4 (0 : Nat) (0 : UInt64) * (18446744069414584319 : UInt64))
 let u2 := leI (0 : Int) t21 && ltI t21 (↑(5 : Nat) : Int)
 cond (hide (ltI t21 (4 : Int))) (must (leI (0 : Int) t21 && ltI t21 (↑(4 : Nat) : Int)) (must (leI (0 : Int) i7 && ltI i7 (↑(4 : Nat) : Int)) (Option.bind (p163 N (List.getD ob0 t21.toNat (0 : UInt64)) (List.getD ob1 i7.toNat (0 : UInt64))) fun r3 => must u2 (Option.bind (kAdd (r3.2.1) (List.getD ob4 t21.toNat (0 : UInt64)) (0 : UInt64)) fun r4 => Option.bind (kAdd r4.1 c8 (0 : UInt64)) fun r5 => must u2 (A_8 i7 (hide (hide (Prod.fst r3 + Prod.snd r4) + Prod.snd r5)) t18 (hide (wr (t21 + (1 : Int)))) ob0 ob1 ob2 ob3 (setL ob4 t21.toNat r5.1)))))) (Option.bind (kAdd (List.getD ob4 (4 : Nat) (0 : UInt64)) c8 (0 : UInt64)) fun r0 => Option.bind (p163 N u1 (List.getD ob3 (0 : Nat) (0 : UInt64))) fun r1 => Option.bind (kAdd (r1.2.1) (List.getD ob4 (0 : Nat) (0 : UInt64)) (0 : UInt64)) fun r2 => zlT N A_4 N (hide (Prod.fst r1 + Prod.snd r2)) r0.1 r0.2 u1 (1 : Int) t18 ob0 ob1 ob2 ob3 ob4)
def zqs (N : Nat) (A_4 : Int -> (List UInt64) -> (List UInt64) -> (List UInt64) -> (List UInt64) -> (List UInt64) -> Option (Fr × Unit)) (n : Nat) (i7 : Int) (c8 : UInt64) (t18 t21 : Int) (ob0 ob1 ob2 ob3 ob4 : List UInt64) : Option (Fr × Unit) :=
 zan (fun A x => zqr N A_4 (fun i7 c8 t18 t21 ob0 ob1 ob2 ob3 ob4 => A (((), ((), ((), ((), ((), (i7, (c8, (t18, (t21, ()))))))))), (ob0, (ob1, (ob2, (ob3, (ob4, ()))))))) x.1.2.2.2.2.2.1 x.1.2.2.2.2.2.2.1 x.1.2.2.2.2.2.2.2.1 x.1.2.2.2.2.2.2.2.2.1 x.2.1 x.2.2.1 x.2.2.2.1 x.2.2.2.2.1 x.2.2.2.2.2.1) n (((), ((), ((), ((), ((), (i7, (c8, (t18, (t21, ()))))))))), (ob0, (ob1, (ob2, (ob3, (ob4, ()))))))
def zqt (N : Nat) (A_4 : Int -> (List UInt64) -> (List UInt64) -> (List UInt64) -> (List UInt64) -> (List UInt64) -> Option (Fr × Unit)) (t18 : Int) (ob0 ob1 ob2 ob3 ob4 : List UInt64) : Option (Fr × Unit) :=
 cond (hide (ltI t18 (4 : Int))) (zqs N A_4 N t18 (0 : UInt64) t18 (0 : Int) ob0 ob1 ob2 ob3 ob4) (must (leN (Int.toNat (0 : Int) + (4 : Nat)) ob4.length) (Option.bind (Option.bind (Option.bind (Fr.of? (List.take (4 : Nat) ob4)) fun r0 => some ((r0, List.getD ob4 (4 : Nat) (0 : UInt64), ()))) fun r1 => p174 N r1.1 (r1.2.1)) fun r2 => some (({ a0 := Fr.a0 r2.1, a1 := Fr.a1 r2.1, a2 := Fr.a2 r2.1, a3 := Fr.a3 r2.1 }, ()))))
def zqu (N n : Nat) (t18 : Int) (ob0 ob1 ob2 ob3 ob4 : List UInt64) : Option (Fr × Unit) :=
 zan (fun A x => zqt N (fun t18 ob0 ob1 ob2 ob3 ob4 => A (((), ((), ((), ((), ((), (t18, ())))))), (ob0, (ob1, (ob2, (ob3, (ob4, ()))))))) x.1.2.2.2.2.2.1 x.2.1 x.2.2.1 x.2.2.2.1 x.2.2.2.2.1 x.2.2.2.2.2.1) n (((), ((), ((), ((), ((), (t18, ())))))), (ob0, (ob1, (ob2, (ob3, (ob4, ()))))))
def p172 (N : Nat) (a0 b1 : Fr) : Option (Fr × Unit) :=
 Option.bind (p169 N) fun r0 => zqu N N (0 : Int) ([Fr.a0 a0, Fr.a1 a0, Fr.a2 a0, Fr.a3 a0]) ([Fr.a0 b1, Fr.a1 b1, Fr.a2 b1, Fr.a3 b1]) ([(0 : UInt64), (0 : UInt64), (0 : UInt64), (0 : UInt64)]) ([Fr.a0 r0.1, Fr.a1 r0.1, Fr.a2 r0.1, Fr.a3 r0.1]) ([(0 : UInt64), (0 : UInt64), (0 : UInt64), (0 : UInt64), (0 : UInt64)])
def g172 (N : Nat) : Sg := sgK [K.fr, K.fr] [K.fr] fun x => p172 N x.1 x.2.1
def zAa : List (Nat × Head) := [
  (4, ⟨⟨139, [(2, .u (.c (.ptr0 5000000 0))), (3, .u (.c (.ptr0 5000001 0))), (4, .u (.c (.ptr0 5000002 0))), (5, .u (.c (.ptr0 5000003 0))), (6, .u (.c (.ptr0 5000004 0))), (18, .u (.c (.int)))], [(5000000, ⟨false, 4, 53, .vec .u64⟩), (5000001, ⟨false, 4, 53, .vec .u64⟩), (5000002, ⟨false, 4, 53, .vec .u64⟩), (5000003, ⟨false, 4, 53, .vec .u64⟩), (5000004, ⟨false, 5, 206, .vec .u64⟩)]⟩, .exit 0⟩),
  (8, ⟨⟨139, [(2, .u (.c (.ptr0 9000000 0))), (3, .u (.c (.ptr0 9000001 0))), (4, .u (.c (.ptr0 9000002 0))), (5, .u (.c (.ptr0 9000003 0))), (6, .u (.c (.ptr0 9000004 0))), (7, .u (.c (.int))), (8, .u (.c (.u64))), (18, .u (.c (.int))), (21, .u (.c (.int)))], [(9000000, ⟨false, 4, 53, .vec .u64⟩), (9000001, ⟨false, 4, 53, .vec .u64⟩), (9000002, ⟨false, 4, 53, .vec .u64⟩), (9000003, ⟨false, 4, 53, .vec .u64⟩), (9000004, ⟨false, 5, 206, .vec .u64⟩)]⟩, .exit 2⟩),
  (22, ⟨⟨139, [(2, .u (.c (.ptr0 23000000 0))), (3, .u (.c (.ptr0 23000001 0))), (4, .u (.c (.ptr0 23000002 0))), (5, .u (.c (.ptr0 23000003 0))), (6, .u (.c (.ptr0 23000004 0))), (8, .u (.c (.u64))), (13, .u (.c (.u64))), (14, .u (.c (.u64))), (15, .u (.c (.u64))), (16, .u (.c (.int))), (18, .u (.c (.int)))], [(23000000, ⟨false, 4, 53, .vec .u64⟩), (23000001, ⟨false, 4, 53, .vec .u64⟩), (23000002, ⟨false, 4, 53, .vec .u64⟩), (23000003, ⟨false, 4, 53, .vec .u64⟩), (23000004, ⟨false, 5, 206, .vec .u64⟩)]⟩, .exit 4⟩)]
def zAb (N : Nat) : List (Nat × Sg) := [(169, g169 N), (163, g163 N), (164, sg3 kAdd), (174, g174 N)]
theorem zqv (N : Nat) : zaK Try.prog pd.els (zAb N) := ⟨zjD N, ⟨zqj N, ⟨zfd, ⟨zqq N, trivial⟩⟩⟩⟩
theorem zqw (N : Nat) : SgOK Try.prog pd.els 172 (g172 N) :=
 zaD zaN (zaj (zqv N)) Try.func172 (zap (by kernel_rfl)) [K.fr, K.fr] [K.fr] _ N zAa 4 fun x => by kernel_rfl
def p170 (N : Nat) (a0 : Fr) : Option (Fr × Unit) :=
 Option.bind (p213 N) fun r0 => Option.bind (p172 N ({ a0 := Fr.a0 a0, a1 := Fr.a1 a0, a2 := Fr.a2 a0, a3 := Fr.a3 a0 }) ({ a0 := Fr.a0 r0.1, a1 := Fr.a1 r0.1, a2 := Fr.a2 r0.1, a3 := Fr.a3 r0.1 })) fun r1 => some (({ a0 := Fr.a0 r1.1, a1 := Fr.a1 r1.1, a2 := Fr.a2 r1.1, a3 := Fr.a3 r1.1 }, ()))
def g170 (N : Nat) : Sg := sgK [K.fr] [K.fr] fun x => p170 N x.1
def zAc : List (Nat × Head) := [
  ]
def zAd (N : Nat) : List (Nat × Sg) := [(213, g213 N), (172, g172 N)]
theorem zqx (N : Nat) : zaK Try.prog pd.els (zAd N) := ⟨zxT N, ⟨zqw N, trivial⟩⟩
theorem zxU (N : Nat) : SgOK Try.prog pd.els 170 (g170 N) :=
 zaD zaN (zaj (zqx N)) Try.func170 (zap (by kernel_rfl)) [K.fr] [K.fr] _ N zAc 4 fun x => by kernel_rfl
def p76 (N : Nat) (a0 b1 : Fr) : Option (Fr × Unit) :=
 Option.bind (p172 N ({ a0 := Fr.a0 a0, a1 := Fr.a1 a0, a2 := Fr.a2 a0, a3 := Fr.a3 a0 }) ({ a0 := Fr.a0 b1, a1 := Fr.a1 b1, a2 := Fr.a2 b1, a3 := Fr.a3 b1 })) fun r0 => Option.bind (p170 N ({ a0 := Fr.a0 r0.1, a1 := Fr.a1 r0.1, a2 := Fr.a2 r0.1, a3 := Fr.a3 r0.1 })) fun r1 => some (({ a0 := Fr.a0 r1.1, a1 := Fr.a1 r1.1, a2 := Fr.a2 r1.1, a3 := Fr.a3 r1.1 }, ()))
def g76 (N : Nat) : Sg := sgK [K.fr, K.fr] [K.fr] fun x => p76 N x.1 x.2.1
def zDx : List (Nat × Head) := [
  ]
def zDy (N : Nat) : List (Nat × Sg) := [(172, g172 N), (170, g170 N)]
theorem zuA (N : Nat) : zaK Try.prog pd.els (zDy N) := ⟨zqw N, ⟨zxU N, trivial⟩⟩
theorem zws (N : Nat) : SgOK Try.prog pd.els 76 (g76 N) :=
 zaD zaN (zaj (zuA N)) Try.func76 (zap (by kernel_rfl)) [K.fr, K.fr] [K.fr] _ N zDx 4 fun x => by kernel_rfl
def zqy (N : Nat) (A_12 : UInt64 -> Int -> (List UInt64) -> (List UInt64) -> (List UInt64) -> Option (Fr × Unit)) (carry8 : UInt64) (t32 : Int) (ob0 ob1 ob2 : List UInt64) : Option (Fr × Unit) :=
 cond (hide (ltI t32 (4 : Int))) (must (leI (0 : Int) t32 && ltI t32 (↑(4 : Nat) : Int)) (must (leI (0 : Int) t32 && ltI t32 (↑(4 : Nat) : Int)) (Option.bind (kAdd (List.getD ob2 t32.toNat (0 : UInt64)) (List.getD ob1 t32.toNat (0 : UInt64)) carry8) fun r1 => must (leI (0 : Int) t32 && ltI t32 (↑(4 : Nat) : Int)) (A_12 r1.2 (hide (wr (t32 + (1 : Int)))) ob0 ob1 (setL ob2 t32.toNat r1.1))))) (must (Nat.beq ob2.length (4 : Nat)) (Option.bind (Fr.of? ob2) fun r0 => some ((r0, ()))))
def zqz (N n : Nat) (carry8 : UInt64) (t32 : Int) (ob0 ob1 ob2 : List UInt64) : Option (Fr × Unit) :=
 zan (fun A x => zqy N (fun carry8 t32 ob0 ob1 ob2 => A (((), ((), ((), (carry8, (t32, ()))))), (ob0, (ob1, (ob2, ()))))) x.1.2.2.2.1 x.1.2.2.2.2.1 x.2.1 x.2.2.1 x.2.2.2.1) n (((), ((), ((), (carry8, (t32, ()))))), (ob0, (ob1, (ob2, ()))))
def zxV (N : Nat) (A_5 : UInt64 -> UInt64 -> Int -> (List UInt64) -> (List UInt64) -> (List UInt64) -> (List UInt64) -> (List UInt64) -> Option (Fr × Unit)) (borrow7 carry8 : UInt64) (t12 : Int) (ob0 ob1 ob2 ob3 ob4 : List UInt64) : Option (Fr × Unit) :=
 cond (hide (ltI t12 (4 : Int))) (must (leI (0 : Int) t12 && ltI t12 (↑(4 : Nat) : Int)) (must (leI (0 : Int) t12 && ltI t12 (↑(4 : Nat) : Int)) (Option.bind (kSub (List.getD ob0 t12.toNat (0 : UInt64)) (List.getD ob1 t12.toNat (0 : UInt64)) borrow7) fun r1 => must (leI (0 : Int) t12 && ltI t12 (↑(4 : Nat) : Int)) (A_5 r1.2 carry8 (hide (wr (t12 + (1 : Int)))) ob0 ob1 ob2 ob3 (setL ob4 t12.toNat r1.1))))) (cond (hide (borrow7 == (0 : UInt64))) (must (Nat.beq ob4.length (4 : Nat)) (Option.bind (Fr.of? ob4) fun r0 => some ((r0, ())))) (zqz N N carry8 (0 : Int) ob2 ob3 ob4))
def zxW (N n : Nat) (borrow7 carry8 : UInt64) (t12 : Int) (ob0 ob1 ob2 ob3 ob4 : List UInt64) : Option (Fr × Unit) :=
 zan (fun A x => zxV N (fun borrow7 carry8 t12 ob0 ob1 ob2 ob3 ob4 => A (((), ((), ((), ((), ((), (borrow7, (carry8, (t12, ())))))))), (ob0, (ob1, (ob2, (ob3, (ob4, ()))))))) x.1.2.2.2.2.2.1 x.1.2.2.2.2.2.2.1 x.1.2.2.2.2.2.2.2.1 x.2.1 x.2.2.1 x.2.2.2.1 x.2.2.2.2.1 x.2.2.2.2.2.1) n (((), ((), ((), ((), ((), (borrow7, (carry8, (t12, ())))))))), (ob0, (ob1, (ob2, (ob3, (ob4, ()))))))
def p82 (N : Nat) (a0 b1 : Fr) : Option (Fr × Unit) :=
 Option.bind (p169 N) fun r0 => zxW N N (0 : UInt64) (0 : UInt64) (0 : Int) ([Fr.a0 a0, Fr.a1 a0, Fr.a2 a0, Fr.a3 a0]) ([Fr.a0 b1, Fr.a1 b1, Fr.a2 b1, Fr.a3 b1]) ([(0 : UInt64), (0 : UInt64), (0 : UInt64), (0 : UInt64)]) ([Fr.a0 r0.1, Fr.a1 r0.1, Fr.a2 r0.1, Fr.a3 r0.1]) ([(0 : UInt64), (0 : UInt64), (0 : UInt64), (0 : UInt64)])
def g82 (N : Nat) : Sg := sgK [K.fr, K.fr] [K.fr] fun x => p82 N x.1 x.2.1
def zDz : List (Nat × Head) := [
  (5, ⟨⟨50, [(2, .u (.c (.ptr0 6000000 0))), (3, .u (.c (.ptr0 6000001 0))), (4, .u (.c (.ptr0 6000002 0))), (5, .u (.c (.ptr0 6000003 0))), (6, .u (.c (.ptr0 6000004 0))), (7, .u (.c (.u64))), (8, .u (.c (.u64))), (12, .u (.c (.int)))], [(6000000, ⟨false, 4, 53, .vec .u64⟩), (6000001, ⟨false, 4, 53, .vec .u64⟩), (6000002, ⟨false, 4, 53, .vec .u64⟩), (6000003, ⟨false, 4, 53, .vec .u64⟩), (6000004, ⟨false, 4, 53, .vec .u64⟩)]⟩, .exit 0⟩),
  (12, ⟨⟨50, [(4, .u (.c (.ptr0 13000000 0))), (5, .u (.c (.ptr0 13000001 0))), (6, .u (.c (.ptr0 13000002 0))), (8, .u (.c (.u64))), (32, .u (.c (.int)))], [(13000000, ⟨false, 4, 53, .vec .u64⟩), (13000001, ⟨false, 4, 53, .vec .u64⟩), (13000002, ⟨false, 4, 53, .vec .u64⟩)]⟩, .exit 2⟩)]
def zDA (N : Nat) : List (Nat × Sg) := [(169, g169 N), (159, sg3 kSub), (164, sg3 kAdd)]
theorem zuB (N : Nat) : zaK Try.prog pd.els (zDA N) := ⟨zjD N, ⟨zjA, ⟨zfd, trivial⟩⟩⟩
theorem zwt (N : Nat) : SgOK Try.prog pd.els 82 (g82 N) :=
 zaD zaN (zaj (zuB N)) Try.func82 (zap (by kernel_rfl)) [K.fr, K.fr] [K.fr] _ N zDz 4 fun x => by kernel_rfl
def p84 (N : Nat) (a0 : Fr) : Option (Fr × Unit) :=
 Option.bind (p82 N ({ a0 := (0 : UInt64), a1 := (0 : UInt64), a2 := (0 : UInt64), a3 := (0 : UInt64) }) ({ a0 := Fr.a0 a0, a1 := Fr.a1 a0, a2 := Fr.a2 a0, a3 := Fr.a3 a0 })) fun r0 => some (({ a0 := Fr.a0 r0.1, a1 := Fr.a1 r0.1, a2 := Fr.a2 r0.1, a3 := Fr.a3 r0.1 }, ()))
def g84 (N : Nat) : Sg := sgK [K.fr] [K.fr] fun x => p84 N x.1
def zDB : List (Nat × Head) := [
  ]
def zDC (N : Nat) : List (Nat × Sg) := [(82, g82 N)]
theorem zuC (N : Nat) : zaK Try.prog pd.els (zDC N) := ⟨zwt N, trivial⟩
theorem zAe (N : Nat) : SgOK Try.prog pd.els 84 (g84 N) :=
 zaD zaN (zaj (zuC N)) Try.func84 (zap (by kernel_rfl)) [K.fr] [K.fr] _ N zDB 4 fun x => by kernel_rfl
def p79 (N : Nat) (a0 : Fr) : Option (Bool × Unit) :=
 Option.bind (p169 N) fun r0 => Option.bind (p61 N (List.take (Int.toNat ((↑(4 : Nat) : Int) - (0 : Int))) [Fr.a0 a0, Fr.a1 a0, Fr.a2 a0, Fr.a3 a0]) (List.take (Int.toNat ((↑(4 : Nat) : Int) - (0 : Int))) [Fr.a0 r0.1, Fr.a1 r0.1, Fr.a2 r0.1, Fr.a3 r0.1])) fun r1 => some ((hide (ltI r1.1 (0 : Int)), ()))
def g79 (N : Nat) : Sg := sgK [K.fr] [K.bool] fun x => p79 N x.1
def zDD : List (Nat × Head) := [
  ]
def zDE (N : Nat) : List (Nat × Sg) := [(169, g169 N), (61, g61 N)]
theorem zuD (N : Nat) : zaK Try.prog pd.els (zDE N) := ⟨zjD N, ⟨zzR N, trivial⟩⟩
theorem zAf (N : Nat) : SgOK Try.prog pd.els 79 (g79 N) :=
 zaD zaN (zaj (zuD N)) Try.func79 (zap (by kernel_rfl)) [K.fr] [K.bool] _ N zDD 4 fun x => by kernel_rfl
def p88 (N : Nat) : Option (List UInt64 × Unit) :=
 some (([(18446744069414584321 : UInt64), (6034159408538082302 : UInt64), (3691218898639771653 : UInt64), (8353516859464449352 : UInt64)], ()))
def g88 (N : Nat) : Sg := sgK [] [(K.ro .u64)] fun x => p88 N
def zDF : List (Nat × Head) := [
  ]
def zDG (N : Nat) : List (Nat × Sg) := []
theorem zuE (N : Nat) : zaK Try.prog pd.els (zDG N) := trivial
theorem znH (N : Nat) : SgOK Try.prog pd.els 88 (g88 N) :=
 zaD zaN (zaj (zuE N)) Try.func88 (zap (by kernel_rfl)) [] [(K.ro .u64)] _ N zDF 4 fun x => by kernel_rfl
def zqA (N : Nat) (A_2 : (List UInt64) -> (List UInt64) -> Int -> Option (Bool × Unit)) (a0 m1 : List UInt64) (i5 : Int) : Option (Bool × Unit) :=
 cond (hide (leI (0 : Int) i5)) (must (leI (0 : Int) i5 && ltI i5 (↑a0.length : Int)) (must (leI (0 : Int) i5 && ltI i5 (↑m1.length : Int)) (cond (hide !List.getD a0 i5.toNat (0 : UInt64) == List.getD m1 i5.toNat (0 : UInt64)) (must (leI (0 : Int) i5 && ltI i5 (↑a0.length : Int)) (must (leI (0 : Int) i5 && ltI i5 (↑m1.length : Int)) (some ((hide (ltN (UInt64.toNat (List.getD a0 i5.toNat (0 : UInt64))) (UInt64.toNat (List.getD m1 i5.toNat (0 : UInt64)))), ()))))) (A_2 a0 m1 (hide (wr (i5 - (1 : Int)))))))) (some ((false, ())))
def zqB (N n : Nat) (a0 m1 : List UInt64) (i5 : Int) : Option (Bool × Unit) :=
 zan (fun A x => zqA N (fun a0 m1 i5 => A ((a0, (m1, (i5, ()))), ())) x.1.1 x.1.2.1 x.1.2.2.1) n ((a0, (m1, (i5, ()))), ())
def p168 (N : Nat) (a0 m1 : List UInt64) : Option (Bool × Unit) :=
 zqB N N a0 m1 (hide (wr ((↑m1.length : Int) - (1 : Int))))
def g168 (N : Nat) : Sg := sgK [(K.ro .u64), (K.ro .u64)] [K.bool] fun x => p168 N x.1 x.2.1
def zAg : List (Nat × Head) := [
  (2, ⟨⟨31, [(0, .u (.c (.ro .u64))), (1, .u (.c (.ro .u64))), (5, .u (.c (.int)))], []⟩, .exit 0⟩)]
def zAh (N : Nat) : List (Nat × Sg) := []
theorem zqC (N : Nat) : zaK Try.prog pd.els (zAh N) := trivial
theorem zlU (N : Nat) : SgOK Try.prog pd.els 168 (g168 N) :=
 zaD zaN (zaj (zqC N)) Try.func168 (zap (by kernel_rfl)) [(K.ro .u64), (K.ro .u64)] [K.bool] _ N zAg 4 fun x => by kernel_rfl
def p69 (N : Nat) (a0 : Fr) : Option (Bool × Unit) :=
 Option.bind (p88 N) fun r0 => Option.bind (p168 N (List.take (Int.toNat ((↑(4 : Nat) : Int) - (0 : Int))) [Fr.a0 a0, Fr.a1 a0, Fr.a2 a0, Fr.a3 a0]) r0.1) fun r1 => some ((Prod.fst r1, ()))
def g69 (N : Nat) : Sg := sgK [K.fr] [K.bool] fun x => p69 N x.1
def zDH : List (Nat × Head) := [
  ]
def zDI (N : Nat) : List (Nat × Sg) := [(88, g88 N), (168, g168 N)]
theorem zuF (N : Nat) : zaK Try.prog pd.els (zDI N) := ⟨znH N, ⟨zlU N, trivial⟩⟩
theorem zqD (N : Nat) : SgOK Try.prog pd.els 69 (g69 N) :=
 zaD zaN (zaj (zuF N)) Try.func69 (zap (by kernel_rfl)) [K.fr] [K.bool] _ N zDH 4 fun x => by kernel_rfl
def p173 (N : Nat) (n0 : UInt64) : Option (Fr × Unit) :=
 some (({ a0 := n0, a1 := (0 : UInt64), a2 := (0 : UInt64), a3 := (0 : UInt64) }, ()))
def g173 (N : Nat) : Sg := sgK [K.u64] [K.fr] fun x => p173 N x.1
def zAi : List (Nat × Head) := [
  ]
def zAj (N : Nat) : List (Nat × Sg) := []
theorem zqE (N : Nat) : zaK Try.prog pd.els (zAj N) := trivial
theorem zjE (N : Nat) : SgOK Try.prog pd.els 173 (g173 N) :=
 zaD zaN (zaj (zqE N)) Try.func173 (zap (by kernel_rfl)) [K.u64] [K.fr] _ N zAi 4 fun x => by kernel_rfl
def zqF (N : Nat) (A_2 : Nat -> Nat -> (List UInt64) -> UInt64 -> Int -> (List UInt64) -> Option (List UInt64 × Unit)) (t0f t0n : Nat) (m1 : List UInt64) (c4 : UInt64) (i5 : Int) (t0o : List UInt64) : Option (List UInt64 × Unit) :=
 cond (hide (ltI i5 (↑m1.length : Int))) (must (leI (0 : Int) i5 && ltI i5 (↑t0n : Int)) (must (leI (0 : Int) i5 && ltI i5 (↑m1.length : Int)) (Option.bind (kSub (List.getD t0o (t0f + Int.toNat i5) (0 : UInt64)) (List.getD m1 i5.toNat (0 : UInt64)) c4) fun r0 => must (leI (0 : Int) i5 && ltI i5 (↑t0n : Int)) (A_2 t0f t0n m1 r0.2 (hide (wr (i5 + (1 : Int)))) (setL t0o (t0f + Int.toNat i5) r0.1))))) (some ((t0o, ())))
def zqG (N n t0f t0n : Nat) (m1 : List UInt64) (c4 : UInt64) (i5 : Int) (t0o : List UInt64) : Option (List UInt64 × Unit) :=
 zan (fun A x => zqF N (fun t0f t0n m1 c4 i5 t0o => A (((t0f, t0n), (m1, (c4, (i5, ())))), (t0o, ()))) x.1.1.1 x.1.1.2 x.1.2.1 x.1.2.2.1 x.1.2.2.2.1 x.2.1) n (((t0f, t0n), (m1, (c4, (i5, ())))), (t0o, ()))
def p214 (N : Nat) (t0 m1 : List UInt64) : Option (List UInt64 × Unit) :=
 zqG N N (0 : Nat) t0.length m1 (0 : UInt64) (0 : Int) t0
def g214 (N : Nat) : Sg := sgIO 1 [(K.vec .u64), (K.ro .u64)] [(K.vec .u64)] fun x => p214 N x.1 x.2.1
def zAk : List (Nat × Head) := [
  (2, ⟨⟨28, [(0, .u (.c (.sl 3000000))), (1, .u (.c (.ro .u64))), (4, .u (.c (.u64))), (5, .u (.c (.int)))], [(3000000, ⟨false, 0, 1000000, .vec .u64⟩)]⟩, .exit 0⟩)]
def zAl (N : Nat) : List (Nat × Sg) := [(159, sg3 kSub)]
theorem zqH (N : Nat) : zaK Try.prog pd.els (zAl N) := ⟨zjA, trivial⟩
theorem zqI (N : Nat) : SgOK Try.prog pd.els 214 (g214 N) :=
 zqd zaN (zaj (zqH N)) Try.func214 (zap (by kernel_rfl)) 1 (by decide) [(K.vec .u64), (K.ro .u64)] [(K.vec .u64)] _ N zAk 4 fun x => by kernel_rfl
def zlV (N : Nat) (A_10 : (List UInt64) -> (List UInt64) -> (List UInt64) -> Int -> UInt64 -> Int -> (List UInt64) -> Option (List UInt64 × Unit)) (A_27 : (List UInt64) -> (List UInt64) -> (List UInt64) -> Int -> UInt64 -> Int -> UInt64 -> UInt64 -> Int -> (List UInt64) -> Option (List UInt64 × Unit)) (a0 b1 m2 : List UInt64) (n7 : Int) (inv8 : UInt64) (i11 : Int) (c12 q21 : UInt64) (k24 : Int) (t10o : List UInt64) : Option (List UInt64 × Unit) :=
 cond (hide (ltI k24 n7)) (must (leI (0 : Int) k24 && ltI k24 (↑m2.length : Int)) (Option.bind (p163 N q21 (List.getD m2 k24.toNat (0 : UInt64))) fun r1 => must (leI (0 : Int) k24 && ltI k24 (↑t10o.length : Int)) (Option.bind (kAdd (List.getD t10o k24.toNat (0 : UInt64)) (r1.2.1) (0 : UInt64)) fun r2 => Option.bind (kAdd r2.1 c12 (0 : UInt64)) fun r3 => must (leI (0 : Int) (hide (wr (k24 - (1 : Int)))) && ltI (hide (wr (k24 - (1 : Int)))) (↑t10o.length : Int)) (A_27 a0 b1 m2 n7 inv8 i11 (hide (hide (Prod.fst r1 + Prod.snd r2) + Prod.snd r3)) q21 (hide (wr (k24 + (1 : Int)))) (setL t10o (Int.toNat (hide (wr (k24 - (1 : Int))))) r3.1))))) (must (leI (0 : Int) n7 && ltI n7 (↑t10o.length : Int)) (Option.bind (kAdd (List.getD t10o n7.toNat (0 : UInt64)) c12 (0 : UInt64)) fun r0 => let w0 := setL t10o (Int.toNat (hide (wr (n7 - (1 : Int))))) r0.1; must (leI (0 : Int) (hide (wr (n7 + (1 : Int)))) && ltI (hide (wr (n7 + (1 : Int)))) (↑t10o.length : Int)) (must (leI (0 : Int) (hide (wr (n7 - (1 : Int)))) && ltI (hide (wr (n7 - (1 : Int)))) (↑t10o.length : Int)) (must (leI (0 : Int) n7 && ltI n7 (↑(List.length w0) : Int)) (A_10 a0 b1 m2 n7 inv8 (hide (wr (i11 + (1 : Int)))) (setL w0 n7.toNat (hide (List.getD t10o (Int.toNat (hide (wr (n7 + (1 : Int))))) (0 : UInt64) + Prod.snd r0))))))))
def zlW (N : Nat) (A_10 : (List UInt64) -> (List UInt64) -> (List UInt64) -> Int -> UInt64 -> Int -> (List UInt64) -> Option (List UInt64 × Unit)) (n : Nat) (a0 b1 m2 : List UInt64) (n7 : Int) (inv8 : UInt64) (i11 : Int) (c12 q21 : UInt64) (k24 : Int) (t10o : List UInt64) : Option (List UInt64 × Unit) :=
 zan (fun A x => zlV N A_10 (fun a0 b1 m2 n7 inv8 i11 c12 q21 k24 t10o => A ((a0, (b1, (m2, (n7, (inv8, ((), (i11, (c12, (q21, (k24, ())))))))))), (t10o, ()))) x.1.1 x.1.2.1 x.1.2.2.1 x.1.2.2.2.1 x.1.2.2.2.2.1 x.1.2.2.2.2.2.2.1 x.1.2.2.2.2.2.2.2.1 x.1.2.2.2.2.2.2.2.2.1 x.1.2.2.2.2.2.2.2.2.2.1 x.2.1) n ((a0, (b1, (m2, (n7, (inv8, ((), (i11, (c12, (q21, (k24, ())))))))))), (t10o, ()))
def zlX (N : Nat) (A_10 : (List UInt64) -> (List UInt64) -> (List UInt64) -> Int -> UInt64 -> Int -> (List UInt64) -> Option (List UInt64 × Unit)) (A_14 : (List UInt64) -> (List UInt64) -> (List UInt64) -> Int -> UInt64 -> Int -> UInt64 -> Int -> (List UInt64) -> Option (List UInt64 × Unit)) (a0 b1 m2 : List UInt64) (n7 : Int) (inv8 : UInt64) (i11 : Int) (c12 : UInt64) (k13 : Int) (t10o : List UInt64) : Option (List UInt64 × Unit) :=
 cond (hide (ltI k13 n7)) (must (leI (0 : Int) i11 && ltI i11 (↑a0.length : Int)) (must (leI (0 : Int) k13 && ltI k13 (↑b1.length : Int)) (Option.bind (p163 N (List.getD a0 i11.toNat (0 : UInt64)) (List.getD b1 k13.toNat (0 : UInt64))) fun r3 => must (leI (0 : Int) k13 && ltI k13 (↑t10o.length : Int)) (Option.bind (kAdd (List.getD t10o k13.toNat (0 : UInt64)) (r3.2.1) (0 : UInt64)) fun r4 => Option.bind (kAdd r4.1 c12 (0 : UInt64)) fun r5 => must (leI (0 : Int) k13 && ltI k13 (↑t10o.length : Int)) (A_14 a0 b1 m2 n7 inv8 i11 (hide (hide (Prod.fst r3 + Prod.snd r4) + Prod.snd r5)) (hide (wr (k13 + (1 : Int)))) (setL t10o k13.toNat r5.1)))))) (must (leI (0 : Int) n7 && ltI n7 (↑t10o.length : Int)) (Option.bind (kAdd (List.getD t10o n7.toNat (0 : UInt64)) c12 (0 : UInt64)) fun r0 => let w0 := setL (setL t10o n7.toNat r0.1) (Int.toNat (hide (wr (n7 + (1 : Int))))) r0.2; let w1 := hide (List.getD w0 (0 : Nat) (0 : UInt64) * inv8); let w2 := ltI (0 : Int) (↑(List.length w0) : Int); must (leI (0 : Int) n7 && ltI n7 (↑t10o.length : Int)) (must (leI (0 : Int) (hide (wr (n7 + (1 : Int)))) && ltI (hide (wr (n7 + (1 : Int)))) (↑(List.length (setL t10o n7.toNat r0.1)) : Int)) (must w2 (must (ltI (0 : Int) (↑m2.length : Int)) (Option.bind (p163 N w1 (List.getD m2 (0 : Nat) (0 : UInt64))) fun r1 => must w2 (Option.bind (kAdd (List.getD w0 (0 : Nat) (0 : UInt64)) (r1.2.1) (0 : UInt64)) fun r2 => zlW N A_10 N a0 b1 m2 n7 inv8 i11 (hide (Prod.fst r1 + Prod.snd r2)) w1 (1 : Int) w0)))))))
def zlY (N : Nat) (A_10 : (List UInt64) -> (List UInt64) -> (List UInt64) -> Int -> UInt64 -> Int -> (List UInt64) -> Option (List UInt64 × Unit)) (n : Nat) (a0 b1 m2 : List UInt64) (n7 : Int) (inv8 : UInt64) (i11 : Int) (c12 : UInt64) (k13 : Int) (t10o : List UInt64) : Option (List UInt64 × Unit) :=
 zan (fun A x => zlX N A_10 (fun a0 b1 m2 n7 inv8 i11 c12 k13 t10o => A ((a0, (b1, (m2, (n7, (inv8, ((), (i11, (c12, (k13, ()))))))))), (t10o, ()))) x.1.1 x.1.2.1 x.1.2.2.1 x.1.2.2.2.1 x.1.2.2.2.2.1 x.1.2.2.2.2.2.2.1 x.1.2.2.2.2.2.2.2.1 x.1.2.2.2.2.2.2.2.2.1 x.2.1) n ((a0, (b1, (m2, (n7, (inv8, ((), (i11, (c12, (k13, ()))))))))), (t10o, ()))
def zlZ (N : Nat) (A_10 : (List UInt64) -> (List UInt64) -> (List UInt64) -> Int -> UInt64 -> Int -> (List UInt64) -> Option (List UInt64 × Unit)) (a0 b1 m2 : List UInt64) (n7 : Int) (inv8 : UInt64) (i11 : Int) (t10o : List UInt64) : Option (List UInt64 × Unit) :=
 let u1 := Int.toNat (n7 - (0 : Int))
 let u2 := leI (0 : Int) n7 && leI n7 (↑t10o.length : Int)
 let u3 := ltN (0 : Nat) u1
 let u4 := ltN (0 : Nat) t10o.length
 cond (hide (ltI i11 n7)) (zlY N A_10 N a0 b1 m2 n7 inv8 i11 (0 : UInt64) (0 : Int) t10o) (must (leI (0 : Int) n7 && ltI n7 (↑t10o.length : Int)) (cond (hide !List.getD t10o n7.toNat (0 : UInt64) == (0 : UInt64)) (must u4 (Option.bind (p214 N t10o m2) fun r2 => must (Nat.beq r2.1.length t10o.length) (must (leI (0 : Int) n7 && leI n7 (↑r2.1.length : Int)) (must u3 (some ((List.take u1 r2.1, ()))))))) (must u2 (Option.bind (p168 N (List.take u1 t10o) m2) fun r0 => cond (hide !r0.1) (must u4 (Option.bind (p214 N t10o m2) fun r1 => must (Nat.beq r1.1.length t10o.length) (must (leI (0 : Int) n7 && leI n7 (↑r1.1.length : Int)) (must u3 (some ((List.take u1 r1.1, ()))))))) (must u2 (must u3 (some ((List.take u1 t10o, ())))))))))
def zl0 (N n : Nat) (a0 b1 m2 : List UInt64) (n7 : Int) (inv8 : UInt64) (i11 : Int) (t10o : List UInt64) : Option (List UInt64 × Unit) :=
 zan (fun A x => zlZ N (fun a0 b1 m2 n7 inv8 i11 t10o => A ((a0, (b1, (m2, (n7, (inv8, ((), (i11, ()))))))), (t10o, ()))) x.1.1 x.1.2.1 x.1.2.2.1 x.1.2.2.2.1 x.1.2.2.2.2.1 x.1.2.2.2.2.2.2.1 x.2.1) n ((a0, (b1, (m2, (n7, (inv8, ((), (i11, ()))))))), (t10o, ()))
def zqJ (N : Nat) (A_4 : (List UInt64) -> (List UInt64) -> (List UInt64) -> Int -> UInt64 -> Int -> Option (List UInt64 × Unit)) (a0 b1 m2 : List UInt64) (n7 : Int) (inv8 : UInt64) (i9 : Int) : Option (List UInt64 × Unit) :=
 cond (hide (ltI i9 (6 : Int))) (must (ltI (0 : Int) (↑m2.length : Int)) (A_4 a0 b1 m2 n7 (hide (inv8 * hide ((2 : UInt64) - hide (List.getD m2 (0 : Nat) (0 : UInt64) * inv8)))) (hide (wr (i9 + (1 : Int)))))) (must (leI (0 : Int) (hide (wr (n7 + (2 : Int)))) && (eqI (hide (wr (n7 + (2 : Int)))) (hide (wr (n7 + (2 : Int)))) && leN (Int.toNat (hide (wr (n7 + (2 : Int)))) * (8 : Nat)) (140737488355328 : Nat))) (zl0 N N a0 b1 m2 n7 (hide ((0 : UInt64) - inv8)) (0 : Int) (List.replicate (Int.toNat (hide (wr (n7 + (2 : Int))))) (0 : UInt64))))
def zqK (N n : Nat) (a0 b1 m2 : List UInt64) (n7 : Int) (inv8 : UInt64) (i9 : Int) : Option (List UInt64 × Unit) :=
 zan (fun A x => zqJ N (fun a0 b1 m2 n7 inv8 i9 => A ((a0, (b1, (m2, (n7, (inv8, (i9, ())))))), ())) x.1.1 x.1.2.1 x.1.2.2.1 x.1.2.2.2.1 x.1.2.2.2.2.1 x.1.2.2.2.2.2.1) n ((a0, (b1, (m2, (n7, (inv8, (i9, ())))))), ())
def p184 (N : Nat) (a0 b1 m2 : List UInt64) : Option (List UInt64 × Unit) :=
 must (ltI (0 : Int) (↑m2.length : Int)) (zqK N N a0 b1 m2 ((↑m2.length : Int)) (List.getD m2 (0 : Nat) (0 : UInt64)) (0 : Int))
def g184 (N : Nat) : Sg := sgK [(K.ro .u64), (K.ro .u64), (K.ro .u64)] [(K.view .u64)] fun x => p184 N x.1 x.2.1 x.2.2.1
def zAm : List (Nat × Head) := [
  (4, ⟨⟨222, [(0, .u (.c (.ro .u64))), (1, .u (.c (.ro .u64))), (2, .u (.c (.ro .u64))), (7, .u (.c (.int))), (8, .u (.c (.u64))), (9, .u (.c (.int)))], []⟩, .exit 0⟩),
  (10, ⟨⟨222, [(0, .u (.c (.ro .u64))), (1, .u (.c (.ro .u64))), (2, .u (.c (.ro .u64))), (7, .u (.c (.int))), (8, .u (.c (.u64))), (10, .u (.c (.row 11000000))), (11, .u (.c (.int)))], [(11000000, ⟨true, 0, 42, .vec .u64⟩)]⟩, .exit 2⟩),
  (14, ⟨⟨222, [(0, .u (.c (.ro .u64))), (1, .u (.c (.ro .u64))), (2, .u (.c (.ro .u64))), (7, .u (.c (.int))), (8, .u (.c (.u64))), (10, .u (.c (.row 15000000))), (11, .u (.c (.int))), (12, .u (.c (.u64))), (13, .u (.c (.int)))], [(15000000, ⟨true, 0, 42, .vec .u64⟩)]⟩, .exit 4⟩),
  (27, ⟨⟨222, [(0, .u (.c (.ro .u64))), (1, .u (.c (.ro .u64))), (2, .u (.c (.ro .u64))), (7, .u (.c (.int))), (8, .u (.c (.u64))), (10, .u (.c (.row 28000000))), (11, .u (.c (.int))), (12, .u (.c (.u64))), (21, .u (.c (.u64))), (24, .u (.c (.int)))], [(28000000, ⟨true, 0, 42, .vec .u64⟩)]⟩, .exit 6⟩)]
def zAn (N : Nat) : List (Nat × Sg) := [(163, g163 N), (164, sg3 kAdd), (168, g168 N), (214, g214 N)]
theorem zqL (N : Nat) : zaK Try.prog pd.els (zAn N) := ⟨zqj N, ⟨zfd, ⟨zlU N, ⟨zqI N, trivial⟩⟩⟩⟩
theorem zxX (N : Nat) : SgOK Try.prog pd.els 184 (g184 N) :=
 zaD zaN (zaj (zqL N)) Try.func184 (zap (by kernel_rfl)) [(K.ro .u64), (K.ro .u64), (K.ro .u64)] [(K.view .u64)] _ N zAm 4 fun x => by kernel_rfl
def p175 (N : Nat) (a0 : List UInt64) : Option (Fr × Unit) :=
 must (Nat.beq (List.length (zav [(0 : UInt64), (0 : UInt64), (0 : UInt64), (0 : UInt64)] (Int.toNat (0 : Int)) (List.take (Int.toNat ((↑(4 : Nat) : Int) - (0 : Int))) a0))) (4 : Nat)) (Option.bind (Fr.of? (zav [(0 : UInt64), (0 : UInt64), (0 : UInt64), (0 : UInt64)] (Int.toNat (0 : Int)) (List.take (Int.toNat ((↑(4 : Nat) : Int) - (0 : Int))) a0))) fun r0 => some ((r0, ())))
def g175 (N : Nat) : Sg := sgK [(K.ro .u64)] [K.fr] fun x => p175 N x.1
def zAo : List (Nat × Head) := [
  ]
def zAp (N : Nat) : List (Nat × Sg) := []
theorem zqM (N : Nat) : zaK Try.prog pd.els (zAp N) := trivial
theorem zl1 (N : Nat) : SgOK Try.prog pd.els 175 (g175 N) :=
 zaD zaN (zaj (zqM N)) Try.func175 (zap (by kernel_rfl)) [(K.ro .u64)] [K.fr] _ N zAo 4 fun x => by kernel_rfl
def p94 (N : Nat) (a0 b1 : Fr) : Option (Fr × Unit) :=
 Option.bind (p88 N) fun r0 => Option.bind (p184 N (List.take (Int.toNat ((↑(4 : Nat) : Int) - (0 : Int))) [Fr.a0 a0, Fr.a1 a0, Fr.a2 a0, Fr.a3 a0]) (List.take (Int.toNat ((↑(4 : Nat) : Int) - (0 : Int))) [Fr.a0 b1, Fr.a1 b1, Fr.a2 b1, Fr.a3 b1]) r0.1) fun r1 => Option.bind (p184 N (List.take r1.1.length (List.drop (0 : Nat) r1.1)) ([(14526898881837571181 : UInt64), (3129137299524312099 : UInt64), (419701826671360399 : UInt64), (524908885293268753 : UInt64)]) r0.1) fun r2 => Option.bind (p175 N (List.take r2.1.length (List.drop (0 : Nat) r2.1))) fun r3 => some (({ a0 := Fr.a0 r3.1, a1 := Fr.a1 r3.1, a2 := Fr.a2 r3.1, a3 := Fr.a3 r3.1 }, ()))
def g94 (N : Nat) : Sg := sgK [K.fr, K.fr] [K.fr] fun x => p94 N x.1 x.2.1
def zDJ : List (Nat × Head) := [
  ]
def zDK (N : Nat) : List (Nat × Sg) := [(88, g88 N), (184, g184 N), (175, g175 N)]
theorem zuG (N : Nat) : zaK Try.prog pd.els (zDK N) := ⟨znH N, ⟨zxX N, ⟨zl1 N, trivial⟩⟩⟩
theorem zqN (N : Nat) : SgOK Try.prog pd.els 94 (g94 N) :=
 zaD zaN (zaj (zuG N)) Try.func94 (zap (by kernel_rfl)) [K.fr, K.fr] [K.fr] _ N zDJ 4 fun x => by kernel_rfl
def zxY (N : Nat) (A_3 : (List UInt64) -> Int -> (List UInt64) -> (List UInt64) -> (List UInt64) -> Option (Fr × Unit)) (e1 : List UInt64) (i6 : Int) (ob0 ob1 ob2 : List UInt64) : Option (Fr × Unit) :=
 let u1 := hide (wr (i6 - (1 : Int)))
 cond (hide (leI (0 : Int) i6)) (Option.bind (Option.bind (Option.bind (Fr.of? ob2) fun r1 => Option.bind (Option.bind (Fr.of? ob2) fun r2 => some ((r2, ()))) fun r3 => some ((r1, r3))) fun r4 => p94 N r4.1 (r4.2.1)) fun r5 => Option.bind (p162 N e1 i6) fun r6 => cond (hide (Prod.fst r6 == (1 : UInt64))) (Option.bind (Option.bind (Option.bind (Option.bind (Fr.of? ob0) fun r7 => some ((r7, ()))) fun r8 => some (({ a0 := Fr.a0 r5.1, a1 := Fr.a1 r5.1, a2 := Fr.a2 r5.1, a3 := Fr.a3 r5.1 }, r8))) fun r9 => p94 N r9.1 (r9.2.1)) fun r10 => A_3 e1 u1 ob0 ob1 ([Fr.a0 r10.1, Fr.a1 r10.1, Fr.a2 r10.1, Fr.a3 r10.1])) (A_3 e1 u1 ob0 ob1 ([Fr.a0 r5.1, Fr.a1 r5.1, Fr.a2 r5.1, Fr.a3 r5.1]))) (must (Nat.beq ob2.length (4 : Nat)) (Option.bind (Fr.of? ob2) fun r0 => some ((r0, ()))))
def zxZ (N n : Nat) (e1 : List UInt64) (i6 : Int) (ob0 ob1 ob2 : List UInt64) : Option (Fr × Unit) :=
 zan (fun A x => zxY N (fun e1 i6 ob0 ob1 ob2 => A ((e1, ((), ((), ((), (i6, ()))))), (ob0, (ob1, (ob2, ()))))) x.1.1 x.1.2.2.2.2.1 x.2.1 x.2.2.1 x.2.2.2.1) n ((e1, ((), ((), ((), (i6, ()))))), (ob0, (ob1, (ob2, ()))))
def p73 (N : Nat) (a0 : Fr) (e1 : List UInt64) : Option (Fr × Unit) :=
 Option.bind (p173 N (1 : UInt64)) fun r0 => zxZ N N e1 (hide (wr (hide (wr ((64 : Int) * (↑e1.length : Int))) - (1 : Int)))) ([Fr.a0 a0, Fr.a1 a0, Fr.a2 a0, Fr.a3 a0]) ([(0 : UInt64), (0 : UInt64), (0 : UInt64), (0 : UInt64)]) ([Fr.a0 r0.1, Fr.a1 r0.1, Fr.a2 r0.1, Fr.a3 r0.1])
def g73 (N : Nat) : Sg := sgK [K.fr, (K.ro .u64)] [K.fr] fun x => p73 N x.1 x.2.1
def zDL : List (Nat × Head) := [
  (3, ⟨⟨27, [(1, .u (.c (.ro .u64))), (2, .u (.c (.ptr0 4000000 0))), (4, .u (.c (.ptr0 4000001 0))), (5, .u (.c (.ptr0 4000002 0))), (6, .u (.c (.int)))], [(4000000, ⟨false, 4, 53, .vec .u64⟩), (4000001, ⟨false, 4, 53, .vec .u64⟩), (4000002, ⟨false, 4, 53, .vec .u64⟩)]⟩, .exit 0⟩)]
def zDM (N : Nat) : List (Nat × Sg) := [(173, g173 N), (94, g94 N), (162, g162 N)]
theorem zuH (N : Nat) : zaK Try.prog pd.els (zDM N) := ⟨zjE N, ⟨zqN N, ⟨zxS N, trivial⟩⟩⟩
theorem zAq (N : Nat) : SgOK Try.prog pd.els 73 (g73 N) :=
 zaD zaN (zaj (zuH N)) Try.func73 (zap (by kernel_rfl)) [K.fr, (K.ro .u64)] [K.fr] _ N zDL 4 fun x => by kernel_rfl
def zx0 (N : Nat) (A_4 : UInt64 -> Int -> (List UInt64) -> (List UInt64) -> (List UInt64) -> (List UInt64) -> Option (Fr × Unit)) (carry6 : UInt64) (t8 : Int) (ob0 ob1 ob2 ob3 : List UInt64) : Option (Fr × Unit) :=
 cond (hide (ltI t8 (4 : Int))) (must (leI (0 : Int) t8 && ltI t8 (↑(4 : Nat) : Int)) (must (leI (0 : Int) t8 && ltI t8 (↑(4 : Nat) : Int)) (Option.bind (kAdd (List.getD ob0 t8.toNat (0 : UInt64)) (List.getD ob1 t8.toNat (0 : UInt64)) carry6) fun r3 => must (leI (0 : Int) t8 && ltI t8 (↑(4 : Nat) : Int)) (A_4 r3.2 (hide (wr (t8 + (1 : Int)))) ob0 ob1 ob2 (setL ob3 t8.toNat r3.1))))) (Option.bind (Option.bind (Option.bind (Fr.of? ob3) fun r0 => some ((r0, carry6, ()))) fun r1 => p174 N r1.1 (r1.2.1)) fun r2 => some (({ a0 := Fr.a0 r2.1, a1 := Fr.a1 r2.1, a2 := Fr.a2 r2.1, a3 := Fr.a3 r2.1 }, ())))
def zx1 (N n : Nat) (carry6 : UInt64) (t8 : Int) (ob0 ob1 ob2 ob3 : List UInt64) : Option (Fr × Unit) :=
 zan (fun A x => zx0 N (fun carry6 t8 ob0 ob1 ob2 ob3 => A (((), ((), ((), ((), (carry6, (t8, ())))))), (ob0, (ob1, (ob2, (ob3, ())))))) x.1.2.2.2.2.1 x.1.2.2.2.2.2.1 x.2.1 x.2.2.1 x.2.2.2.1 x.2.2.2.2.1) n (((), ((), ((), ((), (carry6, (t8, ())))))), (ob0, (ob1, (ob2, (ob3, ())))))
def p80 (N : Nat) (a0 b1 : Fr) : Option (Fr × Unit) :=
 zx1 N N (0 : UInt64) (0 : Int) ([Fr.a0 a0, Fr.a1 a0, Fr.a2 a0, Fr.a3 a0]) ([Fr.a0 b1, Fr.a1 b1, Fr.a2 b1, Fr.a3 b1]) ([(0 : UInt64), (0 : UInt64), (0 : UInt64), (0 : UInt64)]) ([(0 : UInt64), (0 : UInt64), (0 : UInt64), (0 : UInt64)])
def g80 (N : Nat) : Sg := sgK [K.fr, K.fr] [K.fr] fun x => p80 N x.1 x.2.1
def zDN : List (Nat × Head) := [
  (4, ⟨⟨28, [(2, .u (.c (.ptr0 5000000 0))), (3, .u (.c (.ptr0 5000001 0))), (4, .u (.c (.ptr0 5000002 0))), (5, .u (.c (.ptr0 5000003 0))), (6, .u (.c (.u64))), (8, .u (.c (.int)))], [(5000000, ⟨false, 4, 53, .vec .u64⟩), (5000001, ⟨false, 4, 53, .vec .u64⟩), (5000002, ⟨false, 4, 53, .vec .u64⟩), (5000003, ⟨false, 4, 53, .vec .u64⟩)]⟩, .exit 0⟩)]
def zDO (N : Nat) : List (Nat × Sg) := [(164, sg3 kAdd), (174, g174 N)]
theorem zuI (N : Nat) : zaK Try.prog pd.els (zDO N) := ⟨zfd, ⟨zqq N, trivial⟩⟩
theorem zwu (N : Nat) : SgOK Try.prog pd.els 80 (g80 N) :=
 zaD zaN (zaj (zuI N)) Try.func80 (zap (by kernel_rfl)) [K.fr, K.fr] [K.fr] _ N zDN 4 fun x => by kernel_rfl
def zqO (N : Nat) (A_4 : (List UInt64) -> (List UInt64) -> (List UInt64) -> UInt64 -> Int -> (List UInt64) -> Option (List UInt64 × Unit)) (a0 b1 m2 : List UInt64) (c8 : UInt64) (i9 : Int) (t7o : List UInt64) : Option (List UInt64 × Unit) :=
 let u1 := ltN (0 : Nat) t7o.length
 cond (hide (ltI i9 (↑m2.length : Int))) (must (leI (0 : Int) i9 && ltI i9 (↑a0.length : Int)) (must (leI (0 : Int) i9 && ltI i9 (↑b1.length : Int)) (Option.bind (kAdd (List.getD a0 i9.toNat (0 : UInt64)) (List.getD b1 i9.toNat (0 : UInt64)) c8) fun r3 => must (leI (0 : Int) i9 && ltI i9 (↑t7o.length : Int)) (A_4 a0 b1 m2 r3.2 (hide (wr (i9 + (1 : Int)))) (setL t7o i9.toNat r3.1))))) (cond (hide (c8 == (1 : UInt64))) (must u1 (Option.bind (p214 N t7o m2) fun r2 => must (Nat.beq r2.1.length t7o.length) (some ((Prod.fst r2, ()))))) (Option.bind (p168 N t7o m2) fun r0 => cond (hide !r0.1) (must u1 (Option.bind (p214 N t7o m2) fun r1 => must (Nat.beq r1.1.length t7o.length) (some ((Prod.fst r1, ()))))) (some ((t7o, ())))))
def zqP (N n : Nat) (a0 b1 m2 : List UInt64) (c8 : UInt64) (i9 : Int) (t7o : List UInt64) : Option (List UInt64 × Unit) :=
 zan (fun A x => zqO N (fun a0 b1 m2 c8 i9 t7o => A ((a0, (b1, (m2, ((), (c8, (i9, ())))))), (t7o, ()))) x.1.1 x.1.2.1 x.1.2.2.1 x.1.2.2.2.2.1 x.1.2.2.2.2.2.1 x.2.1) n ((a0, (b1, (m2, ((), (c8, (i9, ())))))), (t7o, ()))
def p176 (N : Nat) (a0 b1 m2 : List UInt64) : Option (List UInt64 × Unit) :=
 must (eqI (↑m2.length : Int) (↑m2.length : Int) && leN (Int.toNat (↑m2.length : Int) * (8 : Nat)) (140737488355328 : Nat)) (zqP N N a0 b1 m2 (0 : UInt64) (0 : Int) (List.replicate (Int.toNat (↑m2.length : Int)) (0 : UInt64)))
def g176 (N : Nat) : Sg := sgK [(K.ro .u64), (K.ro .u64), (K.ro .u64)] [(K.ro .u64)] fun x => p176 N x.1 x.2.1 x.2.2.1
def zAr : List (Nat × Head) := [
  (4, ⟨⟨47, [(0, .u (.c (.ro .u64))), (1, .u (.c (.ro .u64))), (2, .u (.c (.ro .u64))), (7, .u (.c (.row 5000000))), (8, .u (.c (.u64))), (9, .u (.c (.int)))], [(5000000, ⟨true, 0, 42, .vec .u64⟩)]⟩, .exit 0⟩)]
def zAs (N : Nat) : List (Nat × Sg) := [(164, sg3 kAdd), (168, g168 N), (214, g214 N)]
theorem zqQ (N : Nat) : zaK Try.prog pd.els (zAs N) := ⟨zfd, ⟨zlU N, ⟨zqI N, trivial⟩⟩⟩
theorem zx2 (N : Nat) : SgOK Try.prog pd.els 176 (g176 N) :=
 zaD zaN (zaj (zqQ N)) Try.func176 (zap (by kernel_rfl)) [(K.ro .u64), (K.ro .u64), (K.ro .u64)] [(K.ro .u64)] _ N zAr 4 fun x => by kernel_rfl
def p81 (N : Nat) (a0 b1 : Fr) : Option (Fr × Unit) :=
 Option.bind (p88 N) fun r0 => Option.bind (p176 N (List.take (Int.toNat ((↑(4 : Nat) : Int) - (0 : Int))) [Fr.a0 a0, Fr.a1 a0, Fr.a2 a0, Fr.a3 a0]) (List.take (Int.toNat ((↑(4 : Nat) : Int) - (0 : Int))) [Fr.a0 b1, Fr.a1 b1, Fr.a2 b1, Fr.a3 b1]) r0.1) fun r1 => Option.bind (p175 N r1.1) fun r2 => some (({ a0 := Fr.a0 r2.1, a1 := Fr.a1 r2.1, a2 := Fr.a2 r2.1, a3 := Fr.a3 r2.1 }, ()))
def g81 (N : Nat) : Sg := sgK [K.fr, K.fr] [K.fr] fun x => p81 N x.1 x.2.1
def zDP : List (Nat × Head) := [
  ]
def zDQ (N : Nat) : List (Nat × Sg) := [(88, g88 N), (176, g176 N), (175, g175 N)]
theorem zuJ (N : Nat) : zaK Try.prog pd.els (zDQ N) := ⟨znH N, ⟨zx2 N, ⟨zl1 N, trivial⟩⟩⟩
theorem zqR (N : Nat) : SgOK Try.prog pd.els 81 (g81 N) :=
 zaD zaN (zaj (zuJ N)) Try.func81 (zap (by kernel_rfl)) [K.fr, K.fr] [K.fr] _ N zDP 4 fun x => by kernel_rfl
def zl2 (N : Nat) (A_10 : (List UInt64) -> UInt64 -> Int -> (List UInt64) -> Option (List UInt64 × Unit)) (m2 : List UInt64) (c8 : UInt64) (i10 : Int) (t7o : List UInt64) : Option (List UInt64 × Unit) :=
 cond (hide (ltI i10 (↑m2.length : Int))) (must (leI (0 : Int) i10 && ltI i10 (↑t7o.length : Int)) (must (leI (0 : Int) i10 && ltI i10 (↑m2.length : Int)) (Option.bind (kAdd (List.getD t7o i10.toNat (0 : UInt64)) (List.getD m2 i10.toNat (0 : UInt64)) c8) fun r0 => must (leI (0 : Int) i10 && ltI i10 (↑t7o.length : Int)) (A_10 m2 r0.2 (hide (wr (i10 + (1 : Int)))) (setL t7o i10.toNat r0.1))))) (some ((t7o, ())))
def zl3 (N n : Nat) (m2 : List UInt64) (c8 : UInt64) (i10 : Int) (t7o : List UInt64) : Option (List UInt64 × Unit) :=
 zan (fun A x => zl2 N (fun m2 c8 i10 t7o => A ((m2, ((), (c8, (i10, ())))), (t7o, ()))) x.1.1 x.1.2.2.1 x.1.2.2.2.1 x.2.1) n ((m2, ((), (c8, (i10, ())))), (t7o, ()))
def zqS (N : Nat) (A_4 : (List UInt64) -> (List UInt64) -> (List UInt64) -> UInt64 -> Int -> (List UInt64) -> Option (List UInt64 × Unit)) (a0 b1 m2 : List UInt64) (c8 : UInt64) (i9 : Int) (t7o : List UInt64) : Option (List UInt64 × Unit) :=
 cond (hide (ltI i9 (↑m2.length : Int))) (must (leI (0 : Int) i9 && ltI i9 (↑a0.length : Int)) (must (leI (0 : Int) i9 && ltI i9 (↑b1.length : Int)) (Option.bind (kSub (List.getD a0 i9.toNat (0 : UInt64)) (List.getD b1 i9.toNat (0 : UInt64)) c8) fun r0 => must (leI (0 : Int) i9 && ltI i9 (↑t7o.length : Int)) (A_4 a0 b1 m2 r0.2 (hide (wr (i9 + (1 : Int)))) (setL t7o i9.toNat r0.1))))) (cond (hide (c8 == (1 : UInt64))) (zl3 N N m2 (0 : UInt64) (0 : Int) t7o) (some ((t7o, ()))))
def zqT (N n : Nat) (a0 b1 m2 : List UInt64) (c8 : UInt64) (i9 : Int) (t7o : List UInt64) : Option (List UInt64 × Unit) :=
 zan (fun A x => zqS N (fun a0 b1 m2 c8 i9 t7o => A ((a0, (b1, (m2, ((), (c8, (i9, ())))))), (t7o, ()))) x.1.1 x.1.2.1 x.1.2.2.1 x.1.2.2.2.2.1 x.1.2.2.2.2.2.1 x.2.1) n ((a0, (b1, (m2, ((), (c8, (i9, ())))))), (t7o, ()))
def p177 (N : Nat) (a0 b1 m2 : List UInt64) : Option (List UInt64 × Unit) :=
 must (eqI (↑m2.length : Int) (↑m2.length : Int) && leN (Int.toNat (↑m2.length : Int) * (8 : Nat)) (140737488355328 : Nat)) (zqT N N a0 b1 m2 (0 : UInt64) (0 : Int) (List.replicate (Int.toNat (↑m2.length : Int)) (0 : UInt64)))
def g177 (N : Nat) : Sg := sgK [(K.ro .u64), (K.ro .u64), (K.ro .u64)] [(K.ro .u64)] fun x => p177 N x.1 x.2.1 x.2.2.1
def zAt : List (Nat × Head) := [
  (4, ⟨⟨61, [(0, .u (.c (.ro .u64))), (1, .u (.c (.ro .u64))), (2, .u (.c (.ro .u64))), (7, .u (.c (.row 5000000))), (8, .u (.c (.u64))), (9, .u (.c (.int)))], [(5000000, ⟨true, 0, 42, .vec .u64⟩)]⟩, .exit 0⟩),
  (10, ⟨⟨61, [(2, .u (.c (.ro .u64))), (7, .u (.c (.row 11000000))), (8, .u (.c (.u64))), (10, .u (.c (.int)))], [(11000000, ⟨true, 0, 42, .vec .u64⟩)]⟩, .exit 2⟩)]
def zAu (N : Nat) : List (Nat × Sg) := [(159, sg3 kSub), (164, sg3 kAdd)]
theorem zqU (N : Nat) : zaK Try.prog pd.els (zAu N) := ⟨zjA, ⟨zfd, trivial⟩⟩
theorem zx3 (N : Nat) : SgOK Try.prog pd.els 177 (g177 N) :=
 zaD zaN (zaj (zqU N)) Try.func177 (zap (by kernel_rfl)) [(K.ro .u64), (K.ro .u64), (K.ro .u64)] [(K.ro .u64)] _ N zAt 4 fun x => by kernel_rfl
def p83 (N : Nat) (a0 b1 : Fr) : Option (Fr × Unit) :=
 Option.bind (p88 N) fun r0 => Option.bind (p177 N (List.take (Int.toNat ((↑(4 : Nat) : Int) - (0 : Int))) [Fr.a0 a0, Fr.a1 a0, Fr.a2 a0, Fr.a3 a0]) (List.take (Int.toNat ((↑(4 : Nat) : Int) - (0 : Int))) [Fr.a0 b1, Fr.a1 b1, Fr.a2 b1, Fr.a3 b1]) r0.1) fun r1 => Option.bind (p175 N r1.1) fun r2 => some (({ a0 := Fr.a0 r2.1, a1 := Fr.a1 r2.1, a2 := Fr.a2 r2.1, a3 := Fr.a3 r2.1 }, ()))
def g83 (N : Nat) : Sg := sgK [K.fr, K.fr] [K.fr] fun x => p83 N x.1 x.2.1
def zDR : List (Nat × Head) := [
  ]
def zDS (N : Nat) : List (Nat × Sg) := [(88, g88 N), (177, g177 N), (175, g175 N)]
theorem zuK (N : Nat) : zaK Try.prog pd.els (zDS N) := ⟨znH N, ⟨zx3 N, ⟨zl1 N, trivial⟩⟩⟩
theorem zwv (N : Nat) : SgOK Try.prog pd.els 83 (g83 N) :=
 zaD zaN (zaj (zuK N)) Try.func83 (zap (by kernel_rfl)) [K.fr, K.fr] [K.fr] _ N zDR 4 fun x => by kernel_rfl
def p85 (N : Nat) (a0 : Fr) : Option (Fr × Unit) :=
 Option.bind (p83 N ({ a0 := (0 : UInt64), a1 := (0 : UInt64), a2 := (0 : UInt64), a3 := (0 : UInt64) }) ({ a0 := Fr.a0 a0, a1 := Fr.a1 a0, a2 := Fr.a2 a0, a3 := Fr.a3 a0 })) fun r0 => some (({ a0 := Fr.a0 r0.1, a1 := Fr.a1 r0.1, a2 := Fr.a2 r0.1, a3 := Fr.a3 r0.1 }, ()))
def g85 (N : Nat) : Sg := sgK [K.fr] [K.fr] fun x => p85 N x.1
def zDT : List (Nat × Head) := [
  ]
def zDU (N : Nat) : List (Nat × Sg) := [(83, g83 N)]
theorem zuL (N : Nat) : zaK Try.prog pd.els (zDU N) := ⟨zwv N, trivial⟩
theorem zww (N : Nat) : SgOK Try.prog pd.els 85 (g85 N) :=
 zaD zaN (zaj (zuL N)) Try.func85 (zap (by kernel_rfl)) [K.fr] [K.fr] _ N zDT 4 fun x => by kernel_rfl
end Go.Proofs.Ytgimohchocjgcaa.V
