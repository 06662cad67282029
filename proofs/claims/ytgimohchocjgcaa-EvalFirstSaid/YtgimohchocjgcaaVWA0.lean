import Derived.Test.YtgimohchocjgcaaVTM
import Derived.KernelRfl
set_option linter.unusedVariables false
set_option linter.unusedSimpArgs false
namespace Go.Proofs.Ytgimohchocjgcaa.V
section
def p75 (N : Nat) (n0 : UInt64) : Option (Fr × Unit) :=
  some (({ a0 := n0, a1 := (0 : UInt64), a2 := (0 : UInt64), a3 := (0 : UInt64) }, ()))
def g75 (N : Nat) : Sg := sgK [K.u64] [K.fr] fun x => p75 N x.1
def zAD : List (Nat × Head) := [
    ]
def zAE (N : Nat) : List (Nat × Sg) := []
theorem zsF (N : Nat) : zaO Try.prog pd.els (zAE N) := trivial
theorem zuh (N : Nat) : SgOK Try.prog pd.els 75 (g75 N) :=
  zaB zaQ (zak (zsF N)) Try.func75 (zar (by kernel_rfl)) [K.u64] [K.fr] _ N zAD 4 fun x => by kernel_rfl
def p169 (N : Nat) : Option (Fr × Unit) :=
  some (({ a0 := (18446744069414584321 : UInt64), a1 := (6034159408538082302 : UInt64), a2 := (3691218898639771653 : UInt64), a3 := (8353516859464449352 : UInt64) }, ()))
def g169 (N : Nat) : Sg := sgK [] [K.fr] fun x => p169 N
def zxB : List (Nat × Head) := [
    ]
def zxC (N : Nat) : List (Nat × Sg) := []
theorem zpi (N : Nat) : zaO Try.prog pd.els (zxC N) := trivial
theorem ziU (N : Nat) : SgOK Try.prog pd.els 169 (g169 N) :=
  zaB zaQ (zak (zpi N)) Try.func169 (zar (by kernel_rfl)) [] [K.fr] _ N zxB 4 fun x => by kernel_rfl
def p213 (N : Nat) : Option (Fr × Unit) :=
  some (({ a0 := (14526898881837571181 : UInt64), a1 := (3129137299524312099 : UInt64), a2 := (419701826671360399 : UInt64), a3 := (524908885293268753 : UInt64) }, ()))
def g213 (N : Nat) : Sg := sgK [] [K.fr] fun x => p213 N
def zxD : List (Nat × Head) := [
    ]
def zxE (N : Nat) : List (Nat × Sg) := []
theorem zpj (N : Nat) : zaO Try.prog pd.els (zxE N) := trivial
theorem zvD (N : Nat) : SgOK Try.prog pd.els 213 (g213 N) :=
  zaB zaQ (zak (zpj N)) Try.func213 (zar (by kernel_rfl)) [] [K.fr] _ N zxD 4 fun x => by kernel_rfl
def zpk (N : Nat) (A_5 : UInt64 -> UInt64 -> Int -> (List UInt64) -> (List UInt64) -> (List UInt64) -> (List UInt64) -> Option (Fr × Unit)) (over1 borrow7 : UInt64) (t10 : Int) (ob0 ob1 ob2 ob3 : List UInt64) : Option (Fr × Unit) :=
  cond (hide (ltI t10 (4 : Int))) (must (leI (0 : Int) t10 && ltI t10 (↑(4 : Nat) : Int)) (must (leI (0 : Int) t10 && ltI t10 (↑(4 : Nat) : Int)) (Option.bind (kSub (List.getD ob0 t10.toNat (0 : UInt64)) (List.getD ob2 t10.toNat (0 : UInt64)) borrow7) fun r2 => must (leI (0 : Int) t10 && ltI t10 (↑(4 : Nat) : Int)) (A_5 over1 r2.2 (hide (wr (t10 + (1 : Int)))) ob0 ob1 ob2 (setL ob3 t10.toNat r2.1))))) (cond (hide (ltN over1.toNat borrow7.toNat)) (must (Nat.beq ob0.length (4 : Nat)) (Option.bind (Fr.of? ob0) fun r1 => some ((r1, ())))) (must (Nat.beq ob3.length (4 : Nat)) (Option.bind (Fr.of? ob3) fun r0 => some ((r0, ())))))
def zpl (N n : Nat) (over1 borrow7 : UInt64) (t10 : Int) (ob0 ob1 ob2 ob3 : List UInt64) : Option (Fr × Unit) :=
  zam (fun A x => zpk N (fun over1 borrow7 t10 ob0 ob1 ob2 ob3 => A ((over1, ((), ((), ((), ((), (borrow7, (t10, ()))))))), (ob0, (ob1, (ob2, (ob3, ())))))) x.1.1 x.1.2.2.2.2.2.1 x.1.2.2.2.2.2.2.1 x.2.1 x.2.2.1 x.2.2.2.1 x.2.2.2.2.1) n ((over1, ((), ((), ((), ((), (borrow7, (t10, ()))))))), (ob0, (ob1, (ob2, (ob3, ())))))
def p174 (N : Nat) (a0 : Fr) (over1 : UInt64) : Option (Fr × Unit) :=
  Option.bind (p169 N) fun r0 => zpl N N over1 (0 : UInt64) (0 : Int) ([Fr.a0 a0, Fr.a1 a0, Fr.a2 a0, Fr.a3 a0]) ([(0 : UInt64), (0 : UInt64), (0 : UInt64), (0 : UInt64)]) ([Fr.a0 r0.1, Fr.a1 r0.1, Fr.a2 r0.1, Fr.a3 r0.1]) ([(0 : UInt64), (0 : UInt64), (0 : UInt64), (0 : UInt64)])
def g174 (N : Nat) : Sg := sgK [K.fr, K.u64] [K.fr] fun x => p174 N x.1 x.2.1
def zxF : List (Nat × Head) := [
    (5, ⟨⟨32, [(1, .u (.c (.u64))), (2, .u (.c (.ptr0 6000000 0))), (4, .u (.c (.ptr0 6000001 0))), (5, .u (.c (.ptr0 6000002 0))), (6, .u (.c (.ptr0 6000003 0))), (7, .u (.c (.u64))), (10, .u (.c (.int)))], [(6000000, ⟨false, 4, 53, .vec .u64⟩), (6000001, ⟨false, 4, 53, .vec .u64⟩), (6000002, ⟨false, 4, 53, .vec .u64⟩), (6000003, ⟨false, 4, 53, .vec .u64⟩)]⟩, .exit 0⟩)]
def zxG (N : Nat) : List (Nat × Sg) := [(169, g169 N), (159, sg3 kSub)]
theorem zpm (N : Nat) : zaO Try.prog pd.els (zxG N) := ⟨ziU N, ⟨ziR, trivial⟩⟩
theorem zpn (N : Nat) : SgOK Try.prog pd.els 174 (g174 N) :=
  zaB zaQ (zak (zpm N)) Try.func174 (zar (by kernel_rfl)) [K.fr, K.u64] [K.fr] _ N zxF 4 fun x => by kernel_rfl
def zk7 (N : Nat) (A_4 : Int -> (List UInt64) -> (List UInt64) -> (List UInt64) -> (List UInt64) -> (List UInt64) -> Option (Fr × Unit)) (A_22 : UInt64 -> UInt64 -> UInt64 -> UInt64 -> Int -> Int -> (List UInt64) -> (List UInt64) -> (List UInt64) -> (List UInt64) -> (List UInt64) -> Option (Fr × Unit)) (c8 top13 more14 x15 : UInt64) (j16 t18 : Int) (ob0 ob1 ob2 ob3 ob4 : List UInt64) : Option (Fr × Unit) :=
  let u1 := hide (wr (j16 - (1 : Int)))
  cond (hide (ltI j16 (4 : Int))) (must (leI (0 : Int) j16 && ltI j16 (↑(4 : Nat) : Int)) (Option.bind (p163 N x15 (List.getD ob3 j16.toNat (0 : UInt64))) fun r1 => must (leI (0 : Int) j16 && ltI j16 (↑(5 : Nat) : Int)) (Option.bind (kAdd (r1.2.1) (List.getD ob4 j16.toNat (0 : UInt64)) (0 : UInt64)) fun r2 => Option.bind (kAdd r2.1 c8 (0 : UInt64)) fun r3 => must (leI (0 : Int) u1 && ltI u1 (↑(5 : Nat) : Int)) (A_22 (hide (hide (Prod.fst r1 + Prod.snd r2) + Prod.snd r3)) top13 more14 x15 (hide (wr (j16 + (1 : Int)))) t18 ob0 ob1 ob2 ob3 (setL ob4 (Int.toNat u1) r3.1))))) (Option.bind (kAdd top13 c8 (0 : UInt64)) fun r0 => A_4 (hide (wr (t18 + (1 : Int)))) ob0 ob1 ob2 ob3 (setL (setL ob4 (3 : Nat) r0.1) (4 : Nat) (hide (more14 + Prod.snd r0))))
def zk8 (N : Nat) (A_4 : Int -> (List UInt64) -> (List UInt64) -> (List UInt64) -> (List UInt64) -> (List UInt64) -> Option (Fr × Unit)) (n : Nat) (c8 top13 more14 x15 : UInt64) (j16 t18 : Int) (ob0 ob1 ob2 ob3 ob4 : List UInt64) : Option (Fr × Unit) :=
  zam (fun A x => zk7 N A_4 (fun c8 top13 more14 x15 j16 t18 ob0 ob1 ob2 ob3 ob4 => A (((), ((), ((), ((), ((), (c8, (top13, (more14, (x15, (j16, (t18, ()))))))))))), (ob0, (ob1, (ob2, (ob3, (ob4, ()))))))) x.1.2.2.2.2.2.1 x.1.2.2.2.2.2.2.1 x.1.2.2.2.2.2.2.2.1 x.1.2.2.2.2.2.2.2.2.1 x.1.2.2.2.2.2.2.2.2.2.1 x.1.2.2.2.2.2.2.2.2.2.2.1 x.2.1 x.2.2.1 x.2.2.2.1 x.2.2.2.2.1 x.2.2.2.2.2.1) n (((), ((), ((), ((), ((), (c8, (top13, (more14, (x15, (j16, (t18, ()))))))))))), (ob0, (ob1, (ob2, (ob3, (ob4, ()))))))
def zpo (N : Nat) (A_4 : Int -> (List UInt64) -> (List UInt64) -> (List UInt64) -> (List UInt64) -> (List UInt64) -> Option (Fr × Unit)) (A_8 : Int -> UInt64 -> Int -> Int -> (List UInt64) -> (List UInt64) -> (List UInt64) -> (List UInt64) -> (List UInt64) -> Option (Fr × Unit)) (i7 : Int) (c8 : UInt64) (t18 t21 : Int) (ob0 ob1 ob2 ob3 ob4 : List UInt64) : Option (Fr × Unit) :=
  let u1 := hide (List.getD ob4 (0 : Nat) (0 : UInt64) * (18446744069414584319 : UInt64))
  let u2 := leI (0 : Int) t21 && ltI t21 (↑(5 : Nat) : Int)
  cond (hide (ltI t21 (4 : Int))) (must (leI (0 : Int) t21 && ltI t21 (↑(4 : Nat) : Int)) (must (leI (0 : Int) i7 && ltI i7 (↑(4 : Nat) : Int)) (Option.bind (p163 N (List.getD ob0 t21.toNat (0 : UInt64)) (List.getD ob1 i7.toNat (0 : UInt64))) fun r3 => must u2 (Option.bind (kAdd (r3.2.1) (List.getD ob4 t21.toNat (0 : UInt64)) (0 : UInt64)) fun r4 => Option.bind (kAdd r4.1 c8 (0 : UInt64)) fun r5 => must u2 (A_8 i7 (hide (hide (Prod.fst r3 + Prod.snd r4) + Prod.snd r5)) t18 (hide (wr (t21 + (1 : Int)))) ob0 ob1 ob2 ob3 (setL ob4 t21.toNat r5.1)))))) (Option.bind (kAdd (List.getD ob4 (4 : Nat) (0 : UInt64)) c8 (0 : UInt64)) fun r0 => Option.bind (p163 N u1 (List.getD ob3 (0 : Nat) (0 : UInt64))) fun r1 => Option.bind (kAdd (r1.2.1) (List.getD ob4 (0 : Nat) (0 : UInt64)) (0 : UInt64)) fun r2 => zk8 N A_4 N (hide (Prod.fst r1 + Prod.snd r2)) r0.1 r0.2 u1 (1 : Int) t18 ob0 ob1 ob2 ob3 ob4)
def zpp (N : Nat) (A_4 : Int -> (List UInt64) -> (List UInt64) -> (List UInt64) -> (List UInt64) -> (List UInt64) -> Option (Fr × Unit)) (n : Nat) (i7 : Int) (c8 : UInt64) (t18 t21 : Int) (ob0 ob1 ob2 ob3 ob4 : List UInt64) : Option (Fr × Unit) :=
  zam (fun A x => zpo N A_4 (fun i7 c8 t18 t21 ob0 ob1 ob2 ob3 ob4 => A (((), ((), ((), ((), ((), (i7, (c8, (t18, (t21, ()))))))))), (ob0, (ob1, (ob2, (ob3, (ob4, ()))))))) x.1.2.2.2.2.2.1 x.1.2.2.2.2.2.2.1 x.1.2.2.2.2.2.2.2.1 x.1.2.2.2.2.2.2.2.2.1 x.2.1 x.2.2.1 x.2.2.2.1 x.2.2.2.2.1 x.2.2.2.2.2.1) n (((), ((), ((), ((), ((), (i7, (c8, (t18, (t21, ()))))))))), (ob0, (ob1, (ob2, (ob3, (ob4, ()))))))
def zpq (N : Nat) (A_4 : Int -> (List UInt64) -> (List UInt64) -> (List UInt64) -> (List UInt64) -> (List UInt64) -> Option (Fr × Unit)) (t18 : Int) (ob0 ob1 ob2 ob3 ob4 : List UInt64) : Option (Fr × Unit) :=
  cond (hide (ltI t18 (4 : Int))) (zpp N A_4 N t18 (0 : UInt64) t18 (0 : Int) ob0 ob1 ob2 ob3 ob4) (must (leN (Int.toNat (0 : Int) + (4 : Nat)) ob4.length) (Option.bind (Option.bind (Option.bind (Fr.of? (List.take (4 : Nat) ob4)) fun r0 => some ((r0, List.getD ob4 (4 : Nat) (0 : UInt64), ()))) fun r1 => p174 N r1.1 (r1.2.1)) fun r2 => some (({ a0 := Fr.a0 r2.1, a1 := Fr.a1 r2.1, a2 := Fr.a2 r2.1, a3 := Fr.a3 r2.1 }, ()))))
def zpr (N n : Nat) (t18 : Int) (ob0 ob1 ob2 ob3 ob4 : List UInt64) : Option (Fr × Unit) :=
  zam (fun A x => zpq N (fun t18 ob0 ob1 ob2 ob3 ob4 => A (((), ((), ((), ((), ((), (t18, ())))))), (ob0, (ob1, (ob2, (ob3, (ob4, ()))))))) x.1.2.2.2.2.2.1 x.2.1 x.2.2.1 x.2.2.2.1 x.2.2.2.2.1 x.2.2.2.2.2.1) n (((), ((), ((), ((), ((), (t18, ())))))), (ob0, (ob1, (ob2, (ob3, (ob4, ()))))))
def p172 (N : Nat) (a0 b1 : Fr) : Option (Fr × Unit) :=
  Option.bind (p169 N) fun r0 => zpr N N (0 : Int) ([Fr.a0 a0, Fr.a1 a0, Fr.a2 a0, Fr.a3 a0]) ([Fr.a0 b1, Fr.a1 b1, Fr.a2 b1, Fr.a3 b1]) ([(0 : UInt64), (0 : UInt64), (0 : UInt64), (0 : UInt64)]) ([Fr.a0 r0.1, Fr.a1 r0.1, Fr.a2 r0.1, Fr.a3 r0.1]) ([(0 : UInt64), (0 : UInt64), (0 : UInt64), (0 : UInt64), (0 : UInt64)])
def g172 (N : Nat) : Sg := sgK [K.fr, K.fr] [K.fr] fun x => p172 N x.1 x.2.1
def zxH : List (Nat × Head) := [
    (4, ⟨⟨139, [(2, .u (.c (.ptr0 5000000 0))), (3, .u (.c (.ptr0 5000001 0))), (4, .u (.c (.ptr0 5000002 0))), (5, .u (.c (.ptr0 5000003 0))), (6, .u (.c (.ptr0 5000004 0))), (18, .u (.c (.int)))], [(5000000, ⟨false, 4, 53, .vec .u64⟩), (5000001, ⟨false, 4, 53, .vec .u64⟩), (5000002, ⟨false, 4, 53, .vec .u64⟩), (5000003, ⟨false, 4, 53, .vec .u64⟩), (5000004, ⟨false, 5, 206, .vec .u64⟩)]⟩, .exit 0⟩),
    (8, ⟨⟨139, [(2, .u (.c (.ptr0 9000000 0))), (3, .u (.c (.ptr0 9000001 0))), (4, .u (.c (.ptr0 9000002 0))), (5, .u (.c (.ptr0 9000003 0))), (6, .u (.c (.ptr0 9000004 0))), (7, .u (.c (.int))), (8, .u (.c (.u64))), (18, .u (.c (.int))), (21, .u (.c (.int)))], [(9000000, ⟨false, 4, 53, .vec .u64⟩), (9000001, ⟨false, 4, 53, .vec .u64⟩), (9000002, ⟨false, 4, 53, .vec .u64⟩), (9000003, ⟨false, 4, 53, .vec .u64⟩), (9000004, ⟨false, 5, 206, .vec .u64⟩)]⟩, .exit 2⟩),
    (22, ⟨⟨139, [(2, .u (.c (.ptr0 23000000 0))), (3, .u (.c (.ptr0 23000001 0))), (4, .u (.c (.ptr0 23000002 0))), (5, .u (.c (.ptr0 23000003 0))), (6, .u (.c (.ptr0 23000004 0))), (8, .u (.c (.u64))), (13, .u (.c (.u64))), (14, .u (.c (.u64))), (15, .u (.c (.u64))), (16, .u (.c (.int))), (18, .u (.c (.int)))], [(23000000, ⟨false, 4, 53, .vec .u64⟩), (23000001, ⟨false, 4, 53, .vec .u64⟩), (23000002, ⟨false, 4, 53, .vec .u64⟩), (23000003, ⟨false, 4, 53, .vec .u64⟩), (23000004, ⟨false, 5, 206, .vec .u64⟩)]⟩, .exit 4⟩)]
def zxI (N : Nat) : List (Nat × Sg) := [(169, g169 N), (163, g163 N), (164, sg3 kAdd), (174, g174 N)]
theorem zps (N : Nat) : zaO Try.prog pd.els (zxI N) := ⟨ziU N, ⟨zpg N, ⟨zeM, ⟨zpn N, trivial⟩⟩⟩⟩
theorem zpt (N : Nat) : SgOK Try.prog pd.els 172 (g172 N) :=
  zaB zaQ (zak (zps N)) Try.func172 (zar (by kernel_rfl)) [K.fr, K.fr] [K.fr] _ N zxH 4 fun x => by kernel_rfl
def p170 (N : Nat) (a0 : Fr) : Option (Fr × Unit) :=
  Option.bind (p213 N) fun r0 => Option.bind (p172 N ({ a0 := Fr.a0 a0, a1 := Fr.a1 a0, a2 := Fr.a2 a0, a3 := Fr.a3 a0 }) ({ a0 := Fr.a0 r0.1, a1 := Fr.a1 r0.1, a2 := Fr.a2 r0.1, a3 := Fr.a3 r0.1 })) fun r1 => some (({ a0 := Fr.a0 r1.1, a1 := Fr.a1 r1.1, a2 := Fr.a2 r1.1, a3 := Fr.a3 r1.1 }, ()))
def g170 (N : Nat) : Sg := sgK [K.fr] [K.fr] fun x => p170 N x.1
def zxJ : List (Nat × Head) := [
    ]
def zxK (N : Nat) : List (Nat × Sg) := [(213, g213 N), (172, g172 N)]
theorem zpu (N : Nat) : zaO Try.prog pd.els (zxK N) := ⟨zvD N, ⟨zpt N, trivial⟩⟩
theorem zvE (N : Nat) : SgOK Try.prog pd.els 170 (g170 N) :=
  zaB zaQ (zak (zpu N)) Try.func170 (zar (by kernel_rfl)) [K.fr] [K.fr] _ N zxJ 4 fun x => by kernel_rfl
def p76 (N : Nat) (a0 b1 : Fr) : Option (Fr × Unit) :=
  Option.bind (p172 N ({ a0 := Fr.a0 a0, a1 := Fr.a1 a0, a2 := Fr.a2 a0, a3 := Fr.a3 a0 }) ({ a0 := Fr.a0 b1, a1 := Fr.a1 b1, a2 := Fr.a2 b1, a3 := Fr.a3 b1 })) fun r0 => Option.bind (p170 N ({ a0 := Fr.a0 r0.1, a1 := Fr.a1 r0.1, a2 := Fr.a2 r0.1, a3 := Fr.a3 r0.1 })) fun r1 => some (({ a0 := Fr.a0 r1.1, a1 := Fr.a1 r1.1, a2 := Fr.a2 r1.1, a3 := Fr.a3 r1.1 }, ()))
def g76 (N : Nat) : Sg := sgK [K.fr, K.fr] [K.fr] fun x => p76 N x.1 x.2.1
def zAF : List (Nat × Head) := [
    ]
def zAG (N : Nat) : List (Nat × Sg) := [(172, g172 N), (170, g170 N)]
theorem zsG (N : Nat) : zaO Try.prog pd.els (zAG N) := ⟨zpt N, ⟨zvE N, trivial⟩⟩
theorem zui (N : Nat) : SgOK Try.prog pd.els 76 (g76 N) :=
  zaB zaQ (zak (zsG N)) Try.func76 (zar (by kernel_rfl)) [K.fr, K.fr] [K.fr] _ N zAF 4 fun x => by kernel_rfl
def zpv (N : Nat) (A_12 : UInt64 -> Int -> (List UInt64) -> (List UInt64) -> (List UInt64) -> Option (Fr × Unit)) (carry8 : UInt64) (t32 : Int) (ob0 ob1 ob2 : List UInt64) : Option (Fr × Unit) :=
  cond (hide (ltI t32 (4 : Int))) (must (leI (0 : Int) t32 && ltI t32 (↑(4 : Nat) : Int)) (must (leI (0 : Int) t32 && ltI t32 (↑(4 : Nat) : Int)) (Option.bind (kAdd (List.getD ob2 t32.toNat (0 : UInt64)) (List.getD ob1 t32.toNat (0 : UInt64)) carry8) fun r1 => must (leI (0 : Int) t32 && ltI t32 (↑(4 : Nat) : Int)) (A_12 r1.2 (hide (wr (t32 + (1 : Int)))) ob0 ob1 (setL ob2 t32.toNat r1.1))))) (must (Nat.beq ob2.length (4 : Nat)) (Option.bind (Fr.of? ob2) fun r0 => some ((r0, ()))))
def zpw (N n : Nat) (carry8 : UInt64) (t32 : Int) (ob0 ob1 ob2 : List UInt64) : Option (Fr × Unit) :=
  zam (fun A x => zpv N (fun carry8 t32 ob0 ob1 ob2 => A (((), ((), ((), (carry8, (t32, ()))))), (ob0, (ob1, (ob2, ()))))) x.1.2.2.2.1 x.1.2.2.2.2.1 x.2.1 x.2.2.1 x.2.2.2.1) n (((), ((), ((), (carry8, (t32, ()))))), (ob0, (ob1, (ob2, ()))))
def zvF (N : Nat) (A_5 : UInt64 -> UInt64 -> Int -> (List UInt64) -> (List UInt64) -> (List UInt64) -> (List UInt64) -> (List UInt64) -> Option (Fr × Unit)) (borrow7 carry8 : UInt64) (t12 : Int) (ob0 ob1 ob2 ob3 ob4 : List UInt64) : Option (Fr × Unit) :=
  cond (hide (ltI t12 (4 : Int))) (must (leI (0 : Int) t12 && ltI t12 (↑(4 : Nat) : Int)) (must (leI (0 : Int) t12 && ltI t12 (↑(4 : Nat) : Int)) (Option.bind (kSub (List.getD ob0 t12.toNat (0 : UInt64)) (List.getD ob1 t12.toNat (0 : UInt64)) borrow7) fun r1 => must (leI (0 : Int) t12 && ltI t12 (↑(4 : Nat) : Int)) (A_5 r1.2 carry8 (hide (wr (t12 + (1 : Int)))) ob0 ob1 ob2 ob3 (setL ob4 t12.toNat r1.1))))) (cond (hide (borrow7 == (0 : UInt64))) (must (Nat.beq ob4.length (4 : Nat)) (Option.bind (Fr.of? ob4) fun r0 => some ((r0, ())))) (zpw N N carry8 (0 : Int) ob2 ob3 ob4))
def zvG (N n : Nat) (borrow7 carry8 : UInt64) (t12 : Int) (ob0 ob1 ob2 ob3 ob4 : List UInt64) : Option (Fr × Unit) :=
  zam (fun A x => zvF N (fun borrow7 carry8 t12 ob0 ob1 ob2 ob3 ob4 => A (((), ((), ((), ((), ((), (borrow7, (carry8, (t12, ())))))))), (ob0, (ob1, (ob2, (ob3, (ob4, ()))))))) x.1.2.2.2.2.2.1 x.1.2.2.2.2.2.2.1 x.1.2.2.2.2.2.2.2.1 x.2.1 x.2.2.1 x.2.2.2.1 x.2.2.2.2.1 x.2.2.2.2.2.1) n (((), ((), ((), ((), ((), (borrow7, (carry8, (t12, ())))))))), (ob0, (ob1, (ob2, (ob3, (ob4, ()))))))
def p82 (N : Nat) (a0 b1 : Fr) : Option (Fr × Unit) :=
  Option.bind (p169 N) fun r0 => zvG N N (0 : UInt64) (0 : UInt64) (0 : Int) ([Fr.a0 a0, Fr.a1 a0, Fr.a2 a0, Fr.a3 a0]) ([Fr.a0 b1, Fr.a1 b1, Fr.a2 b1, Fr.a3 b1]) ([(0 : UInt64), (0 : UInt64), (0 : UInt64), (0 : UInt64)]) ([Fr.a0 r0.1, Fr.a1 r0.1, Fr.a2 r0.1, Fr.a3 r0.1]) ([(0 : UInt64), (0 : UInt64), (0 : UInt64), (0 : UInt64)])
def g82 (N : Nat) : Sg := sgK [K.fr, K.fr] [K.fr] fun x => p82 N x.1 x.2.1
def zAH : List (Nat × Head) := [
    (5, ⟨⟨50, [(2, .u (.c (.ptr0 6000000 0))), (3, .u (.c (.ptr0 6000001 0))), (4, .u (.c (.ptr0 6000002 0))), (5, .u (.c (.ptr0 6000003 0))), (6, .u (.c (.ptr0 6000004 0))), (7, .u (.c (.u64))), (8, .u (.c (.u64))), (12, .u (.c (.int)))], [(6000000, ⟨false, 4, 53, .vec .u64⟩), (6000001, ⟨false, 4, 53, .vec .u64⟩), (6000002, ⟨false, 4, 53, .vec .u64⟩), (6000003, ⟨false, 4, 53, .vec .u64⟩), (6000004, ⟨false, 4, 53, .vec .u64⟩)]⟩, .exit 0⟩),
    (12, ⟨⟨50, [(4, .u (.c (.ptr0 13000000 0))), (5, .u (.c (.ptr0 13000001 0))), (6, .u (.c (.ptr0 13000002 0))), (8, .u (.c (.u64))), (32, .u (.c (.int)))], [(13000000, ⟨false, 4, 53, .vec .u64⟩), (13000001, ⟨false, 4, 53, .vec .u64⟩), (13000002, ⟨false, 4, 53, .vec .u64⟩)]⟩, .exit 2⟩)]
def zAI (N : Nat) : List (Nat × Sg) := [(169, g169 N), (159, sg3 kSub), (164, sg3 kAdd)]
theorem zsH (N : Nat) : zaO Try.prog pd.els (zAI N) := ⟨ziU N, ⟨ziR, ⟨zeM, trivial⟩⟩⟩
theorem zuj (N : Nat) : SgOK Try.prog pd.els 82 (g82 N) :=
  zaB zaQ (zak (zsH N)) Try.func82 (zar (by kernel_rfl)) [K.fr, K.fr] [K.fr] _ N zAH 4 fun x => by kernel_rfl
def p84 (N : Nat) (a0 : Fr) : Option (Fr × Unit) :=
  Option.bind (p82 N ({ a0 := (0 : UInt64), a1 := (0 : UInt64), a2 := (0 : UInt64), a3 := (0 : UInt64) }) ({ a0 := Fr.a0 a0, a1 := Fr.a1 a0, a2 := Fr.a2 a0, a3 := Fr.a3 a0 })) fun r0 => some (({ a0 := Fr.a0 r0.1, a1 := Fr.a1 r0.1, a2 := Fr.a2 r0.1, a3 := Fr.a3 r0.1 }, ()))
def g84 (N : Nat) : Sg := sgK [K.fr] [K.fr] fun x => p84 N x.1
def zAJ : List (Nat × Head) := [
    ]
def zAK (N : Nat) : List (Nat × Sg) := [(82, g82 N)]
theorem zsI (N : Nat) : zaO Try.prog pd.els (zAK N) := ⟨zuj N, trivial⟩
theorem zxL (N : Nat) : SgOK Try.prog pd.els 84 (g84 N) :=
  zaB zaQ (zak (zsI N)) Try.func84 (zar (by kernel_rfl)) [K.fr] [K.fr] _ N zAJ 4 fun x => by kernel_rfl
def p79 (N : Nat) (a0 : Fr) : Option (Bool × Unit) :=
  Option.bind (p169 N) fun r0 => Option.bind (p61 N (List.take (Int.toNat ((↑(4 : Nat) : Int) - (0 : Int))) [Fr.a0 a0, Fr.a1 a0, Fr.a2 a0, Fr.a3 a0]) (List.take (Int.toNat ((↑(4 : Nat) : Int) - (0 : Int))) [Fr.a0 r0.1, Fr.a1 r0.1, Fr.a2 r0.1, Fr.a3 r0.1])) fun r1 => some ((hide (ltI r1.1 (0 : Int)), ()))
def g79 (N : Nat) : Sg := sgK [K.fr] [K.bool] fun x => p79 N x.1
def zAL : List (Nat × Head) := [
    ]
def zAM (N : Nat) : List (Nat × Sg) := [(169, g169 N), (61, g61 N)]
theorem zsJ (N : Nat) : zaO Try.prog pd.els (zAM N) := ⟨ziU N, ⟨zxo N, trivial⟩⟩
theorem zxM (N : Nat) : SgOK Try.prog pd.els 79 (g79 N) :=
  zaB zaQ (zak (zsJ N)) Try.func79 (zar (by kernel_rfl)) [K.fr] [K.bool] _ N zAL 4 fun x => by kernel_rfl
def p88 (N : Nat) : Option (List UInt64 × Unit) :=
  some (([(18446744069414584321 : UInt64), (6034159408538082302 : UInt64), (3691218898639771653 : UInt64), (8353516859464449352 : UInt64)], ()))
def g88 (N : Nat) : Sg := sgK [] [(K.ro .u64)] fun x => p88 N
def zAN : List (Nat × Head) := [
    ]
def zAO (N : Nat) : List (Nat × Sg) := []
theorem zsK (N : Nat) : zaO Try.prog pd.els (zAO N) := trivial
theorem zmE (N : Nat) : SgOK Try.prog pd.els 88 (g88 N) :=
  zaB zaQ (zak (zsK N)) Try.func88 (zar (by kernel_rfl)) [] [(K.ro .u64)] _ N zAN 4 fun x => by kernel_rfl
def zpx (N : Nat) (A_2 : (List UInt64) -> (List UInt64) -> Int -> Option (Bool × Unit)) (a0 m1 : List UInt64) (i5 : Int) : Option (Bool × Unit) :=
  cond (hide (leI (0 : Int) i5)) (must (leI (0 : Int) i5 && ltI i5 (↑a0.length : Int)) (must (leI (0 : Int) i5 && ltI i5 (↑m1.length : Int)) (cond (hide !List.getD a0 i5.toNat (0 : UInt64) == List.getD m1 i5.toNat (0 : UInt64)) (must (leI (0 : Int) i5 && ltI i5 (↑a0.length : Int)) (must (leI (0 : Int) i5 && ltI i5 (↑m1.length : Int)) (some ((hide (ltN (UInt64.toNat (List.getD a0 i5.toNat (0 : UInt64))) (UInt64.toNat (List.getD m1 i5.toNat (0 : UInt64)))), ()))))) (A_2 a0 m1 (hide (wr (i5 - (1 : Int)))))))) (some ((false, ())))
def zpy (N n : Nat) (a0 m1 : List UInt64) (i5 : Int) : Option (Bool × Unit) :=
  zam (fun A x => zpx N (fun a0 m1 i5 => A ((a0, (m1, (i5, ()))), ())) x.1.1 x.1.2.1 x.1.2.2.1) n ((a0, (m1, (i5, ()))), ())
def p168 (N : Nat) (a0 m1 : List UInt64) : Option (Bool × Unit) :=
  zpy N N a0 m1 (hide (wr ((↑m1.length : Int) - (1 : Int))))
def g168 (N : Nat) : Sg := sgK [(K.ro .u64), (K.ro .u64)] [K.bool] fun x => p168 N x.1 x.2.1
def zxN : List (Nat × Head) := [
    (2, ⟨⟨31, [(0, .u (.c (.ro .u64))), (1, .u (.c (.ro .u64))), (5, .u (.c (.int)))], []⟩, .exit 0⟩)]
def zxO (N : Nat) : List (Nat × Sg) := []
theorem zpz (N : Nat) : zaO Try.prog pd.els (zxO N) := trivial
theorem zk9 (N : Nat) : SgOK Try.prog pd.els 168 (g168 N) :=
  zaB zaQ (zak (zpz N)) Try.func168 (zar (by kernel_rfl)) [(K.ro .u64), (K.ro .u64)] [K.bool] _ N zxN 4 fun x => by kernel_rfl
def p69 (N : Nat) (a0 : Fr) : Option (Bool × Unit) :=
  Option.bind (p88 N) fun r0 => Option.bind (p168 N (List.take (Int.toNat ((↑(4 : Nat) : Int) - (0 : Int))) [Fr.a0 a0, Fr.a1 a0, Fr.a2 a0, Fr.a3 a0]) r0.1) fun r1 => some ((Prod.fst r1, ()))
def g69 (N : Nat) : Sg := sgK [K.fr] [K.bool] fun x => p69 N x.1
def zAP : List (Nat × Head) := [
    ]
def zAQ (N : Nat) : List (Nat × Sg) := [(88, g88 N), (168, g168 N)]
theorem zsL (N : Nat) : zaO Try.prog pd.els (zAQ N) := ⟨zmE N, ⟨zk9 N, trivial⟩⟩
theorem zuk (N : Nat) : SgOK Try.prog pd.els 69 (g69 N) :=
  zaB zaQ (zak (zsL N)) Try.func69 (zar (by kernel_rfl)) [K.fr] [K.bool] _ N zAP 4 fun x => by kernel_rfl
def p173 (N : Nat) (n0 : UInt64) : Option (Fr × Unit) :=
  some (({ a0 := n0, a1 := (0 : UInt64), a2 := (0 : UInt64), a3 := (0 : UInt64) }, ()))
def g173 (N : Nat) : Sg := sgK [K.u64] [K.fr] fun x => p173 N x.1
def zxP : List (Nat × Head) := [
    ]
def zxQ (N : Nat) : List (Nat × Sg) := []
theorem zpA (N : Nat) : zaO Try.prog pd.els (zxQ N) := trivial
theorem zla (N : Nat) : SgOK Try.prog pd.els 173 (g173 N) :=
  zaB zaQ (zak (zpA N)) Try.func173 (zar (by kernel_rfl)) [K.u64] [K.fr] _ N zxP 4 fun x => by kernel_rfl
def zpB (N : Nat) (A_2 : Nat -> Nat -> (List UInt64) -> UInt64 -> Int -> (List UInt64) -> Option (List UInt64 × Unit)) (t0f t0n : Nat) (m1 : List UInt64) (c4 : UInt64) (i5 : Int) (t0o : List UInt64) : Option (List UInt64 × Unit) :=
  cond (hide (ltI i5 (↑m1.length : Int))) (must (leI (0 : Int) i5 && ltI i5 (↑t0n : Int)) (must (leI (0 : Int) i5 && ltI i5 (↑m1.length : Int)) (Option.bind (kSub (List.getD t0o (t0f + Int.toNat i5) (0 : UInt64)) (List.getD m1 i5.toNat (0 : UInt64)) c4) fun r0 => must (leI (0 : Int) i5 && ltI i5 (↑t0n : Int)) (A_2 t0f t0n m1 r0.2 (hide (wr (i5 + (1 : Int)))) (setL t0o (t0f + Int.toNat i5) r0.1))))) (some ((t0o, ())))
def zpC (N n t0f t0n : Nat) (m1 : List UInt64) (c4 : UInt64) (i5 : Int) (t0o : List UInt64) : Option (List UInt64 × Unit) :=
  zam (fun A x => zpB N (fun t0f t0n m1 c4 i5 t0o => A (((t0f, t0n), (m1, (c4, (i5, ())))), (t0o, ()))) x.1.1.1 x.1.1.2 x.1.2.1 x.1.2.2.1 x.1.2.2.2.1 x.2.1) n (((t0f, t0n), (m1, (c4, (i5, ())))), (t0o, ()))
def p214 (N : Nat) (t0 m1 : List UInt64) : Option (List UInt64 × Unit) :=
  zpC N N (0 : Nat) t0.length m1 (0 : UInt64) (0 : Int) t0
def g214 (N : Nat) : Sg := sgIO 1 [(K.vec .u64), (K.ro .u64)] [(K.vec .u64)] fun x => p214 N x.1 x.2.1
def zxR : List (Nat × Head) := [
    (2, ⟨⟨28, [(0, .u (.c (.sl 3000000))), (1, .u (.c (.ro .u64))), (4, .u (.c (.u64))), (5, .u (.c (.int)))], [(3000000, ⟨false, 0, 1000000, .vec .u64⟩)]⟩, .exit 0⟩)]
def zxS (N : Nat) : List (Nat × Sg) := [(159, sg3 kSub)]
theorem zpD (N : Nat) : zaO Try.prog pd.els (zxS N) := ⟨ziR, trivial⟩
theorem zpE (N : Nat) : SgOK Try.prog pd.els 214 (g214 N) :=
  zpa zaQ (zak (zpD N)) Try.func214 (zar (by kernel_rfl)) 1 (by decide) [(K.vec .u64), (K.ro .u64)] [(K.vec .u64)] _ N zxR 4 fun x => by kernel_rfl
def zlb (N : Nat) (A_10 : (List UInt64) -> (List UInt64) -> (List UInt64) -> Int -> UInt64 -> Int -> (List UInt64) -> Option (List UInt64 × Unit)) (A_27 : (List UInt64) -> (List UInt64) -> (List UInt64) -> Int -> UInt64 -> Int -> UInt64 -> UInt64 -> Int -> (List UInt64) -> Option (List UInt64 × Unit)) (a0 b1 m2 : List UInt64) (n7 : Int) (inv8 : UInt64) (i11 : Int) (c12 q21 : UInt64) (k24 : Int) (t10o : List UInt64) : Option (List UInt64 × Unit) :=
  let u1 := (↑t10o.length : Int)
  let u2 := hide (wr (n7 - (1 : Int)))
  let u3 := hide (wr (k24 - (1 : Int)))
  let u4 := hide (wr (n7 + (1 : Int)))
  cond (hide (ltI k24 n7)) (must (leI (0 : Int) k24 && ltI k24 (↑m2.length : Int)) (Option.bind (p163 N q21 (List.getD m2 k24.toNat (0 : UInt64))) fun r1 => must (leI (0 : Int) k24 && ltI k24 u1) (Option.bind (kAdd (List.getD t10o k24.toNat (0 : UInt64)) (r1.2.1) (0 : UInt64)) fun r2 => Option.bind (kAdd r2.1 c12 (0 : UInt64)) fun r3 => must (leI (0 : Int) u3 && ltI u3 u1) (A_27 a0 b1 m2 n7 inv8 i11 (hide (hide (Prod.fst r1 + Prod.snd r2) + Prod.snd r3)) q21 (hide (wr (k24 + (1 : Int)))) (setL t10o (Int.toNat u3) r3.1))))) (must (leI (0 : Int) n7 && ltI n7 u1) (Option.bind (kAdd (List.getD t10o n7.toNat (0 : UInt64)) c12 (0 : UInt64)) fun r0 => must (leI (0 : Int) u4 && ltI u4 u1) (must (leI (0 : Int) u2 && ltI u2 u1) (must (leI (0 : Int) n7 && ltI n7 (↑(List.length (setL t10o (Int.toNat u2) r0.1)) : Int)) (A_10 a0 b1 m2 n7 inv8 (hide (wr (i11 + (1 : Int)))) (setL (setL t10o (Int.toNat u2) r0.1) n7.toNat (hide (List.getD t10o (Int.toNat u4) (0 : UInt64) + Prod.snd r0))))))))
def zlc (N : Nat) (A_10 : (List UInt64) -> (List UInt64) -> (List UInt64) -> Int -> UInt64 -> Int -> (List UInt64) -> Option (List UInt64 × Unit)) (n : Nat) (a0 b1 m2 : List UInt64) (n7 : Int) (inv8 : UInt64) (i11 : Int) (c12 q21 : UInt64) (k24 : Int) (t10o : List UInt64) : Option (List UInt64 × Unit) :=
  zam (fun A x => zlb N A_10 (fun a0 b1 m2 n7 inv8 i11 c12 q21 k24 t10o => A ((a0, (b1, (m2, (n7, (inv8, ((), (i11, (c12, (q21, (k24, ())))))))))), (t10o, ()))) x.1.1 x.1.2.1 x.1.2.2.1 x.1.2.2.2.1 x.1.2.2.2.2.1 x.1.2.2.2.2.2.2.1 x.1.2.2.2.2.2.2.2.1 x.1.2.2.2.2.2.2.2.2.1 x.1.2.2.2.2.2.2.2.2.2.1 x.2.1) n ((a0, (b1, (m2, (n7, (inv8, ((), (i11, (c12, (q21, (k24, ())))))))))), (t10o, ()))
def zld (N : Nat) (A_10 : (List UInt64) -> (List UInt64) -> (List UInt64) -> Int -> UInt64 -> Int -> (List UInt64) -> Option (List UInt64 × Unit)) (A_14 : (List UInt64) -> (List UInt64) -> (List UInt64) -> Int -> UInt64 -> Int -> UInt64 -> Int -> (List UInt64) -> Option (List UInt64 × Unit)) (a0 b1 m2 : List UInt64) (n7 : Int) (inv8 : UInt64) (i11 : Int) (c12 : UInt64) (k13 : Int) (t10o : List UInt64) : Option (List UInt64 × Unit) :=
  let u3 := hide (wr (n7 + (1 : Int)))
  let u1 := Int.toNat u3
  let u2 := (↑t10o.length : Int)
  let u4 := leI (0 : Int) k13 && ltI k13 u2
  let u5 := leI (0 : Int) n7 && ltI n7 u2
  cond (hide (ltI k13 n7)) (must (leI (0 : Int) i11 && ltI i11 (↑a0.length : Int)) (must (leI (0 : Int) k13 && ltI k13 (↑b1.length : Int)) (Option.bind (p163 N (List.getD a0 i11.toNat (0 : UInt64)) (List.getD b1 k13.toNat (0 : UInt64))) fun r3 => must u4 (Option.bind (kAdd (List.getD t10o k13.toNat (0 : UInt64)) (r3.2.1) (0 : UInt64)) fun r4 => Option.bind (kAdd r4.1 c12 (0 : UInt64)) fun r5 => must u4 (A_14 a0 b1 m2 n7 inv8 i11 (hide (hide (Prod.fst r3 + Prod.snd r4) + Prod.snd r5)) (hide (wr (k13 + (1 : Int)))) (setL t10o k13.toNat r5.1)))))) (must u5 (Option.bind (kAdd (List.getD t10o n7.toNat (0 : UInt64)) c12 (0 : UInt64)) fun r0 => must u5 (must (leI (0 : Int) u3 && ltI u3 (↑(List.length (setL t10o n7.toNat r0.1)) : Int)) (must (ltI (0 : Int) (↑(List.length (setL (setL t10o n7.toNat r0.1) u1 r0.2)) : Int)) (must (ltI (0 : Int) (↑m2.length : Int)) (Option.bind (p163 N (hide (List.getD (setL (setL t10o n7.toNat r0.1) u1 r0.2) (0 : Nat) (0 : UInt64) * inv8)) (List.getD m2 (0 : Nat) (0 : UInt64))) fun r1 => must (ltI (0 : Int) (↑(List.length (setL (setL t10o n7.toNat r0.1) u1 r0.2)) : Int)) (Option.bind (kAdd (List.getD (setL (setL t10o n7.toNat r0.1) u1 r0.2) (0 : Nat) (0 : UInt64)) (r1.2.1) (0 : UInt64)) fun r2 => zlc N A_10 N a0 b1 m2 n7 inv8 i11 (hide (Prod.fst r1 + Prod.snd r2)) (hide (List.getD (setL (setL t10o n7.toNat r0.1) u1 r0.2) (0 : Nat) (0 : UInt64) * inv8)) (1 : Int) (setL (setL t10o n7.toNat r0.1) u1 r0.2))))))))
def zle (N : Nat) (A_10 : (List UInt64) -> (List UInt64) -> (List UInt64) -> Int -> UInt64 -> Int -> (List UInt64) -> Option (List UInt64 × Unit)) (n : Nat) (a0 b1 m2 : List UInt64) (n7 : Int) (inv8 : UInt64) (i11 : Int) (c12 : UInt64) (k13 : Int) (t10o : List UInt64) : Option (List UInt64 × Unit) :=
  zam (fun A x => zld N A_10 (fun a0 b1 m2 n7 inv8 i11 c12 k13 t10o => A ((a0, (b1, (m2, (n7, (inv8, ((), (i11, (c12, (k13, ()))))))))), (t10o, ()))) x.1.1 x.1.2.1 x.1.2.2.1 x.1.2.2.2.1 x.1.2.2.2.2.1 x.1.2.2.2.2.2.2.1 x.1.2.2.2.2.2.2.2.1 x.1.2.2.2.2.2.2.2.2.1 x.2.1) n ((a0, (b1, (m2, (n7, (inv8, ((), (i11, (c12, (k13, ()))))))))), (t10o, ()))
def zlf (N : Nat) (A_10 : (List UInt64) -> (List UInt64) -> (List UInt64) -> Int -> UInt64 -> Int -> (List UInt64) -> Option (List UInt64 × Unit)) (a0 b1 m2 : List UInt64) (n7 : Int) (inv8 : UInt64) (i11 : Int) (t10o : List UInt64) : Option (List UInt64 × Unit) :=
  let u1 := Int.toNat (n7 - (0 : Int))
  let u2 := leI (0 : Int) n7 && leI n7 (↑t10o.length : Int)
  let u3 := ltN (0 : Nat) u1
  let u4 := ltN (0 : Nat) t10o.length
  cond (hide (ltI i11 n7)) (zle N A_10 N a0 b1 m2 n7 inv8 i11 (0 : UInt64) (0 : Int) t10o) (must (leI (0 : Int) n7 && ltI n7 (↑t10o.length : Int)) (cond (hide !List.getD t10o n7.toNat (0 : UInt64) == (0 : UInt64)) (must u4 (Option.bind (p214 N t10o m2) fun r2 => must (Nat.beq r2.1.length t10o.length) (must (leI (0 : Int) n7 && leI n7 (↑r2.1.length : Int)) (must u3 (some ((List.take u1 r2.1, ()))))))) (must u2 (Option.bind (p168 N (List.take u1 t10o) m2) fun r0 => cond (hide !r0.1) (must u4 (Option.bind (p214 N t10o m2) fun r1 => must (Nat.beq r1.1.length t10o.length) (must (leI (0 : Int) n7 && leI n7 (↑r1.1.length : Int)) (must u3 (some ((List.take u1 r1.1, ()))))))) (must u2 (must u3 (some ((List.take u1 t10o, ())))))))))
def zlg (N n : Nat) (a0 b1 m2 : List UInt64) (n7 : Int) (inv8 : UInt64) (i11 : Int) (t10o : List UInt64) : Option (List UInt64 × Unit) :=
  zam (fun A x => zlf N (fun a0 b1 m2 n7 inv8 i11 t10o => A ((a0, (b1, (m2, (n7, (inv8, ((), (i11, ()))))))), (t10o, ()))) x.1.1 x.1.2.1 x.1.2.2.1 x.1.2.2.2.1 x.1.2.2.2.2.1 x.1.2.2.2.2.2.2.1 x.2.1) n ((a0, (b1, (m2, (n7, (inv8, ((), (i11, ()))))))), (t10o, ()))
def zpF (N : Nat) (A_4 : (List UInt64) -> (List UInt64) -> (List UInt64) -> Int -> UInt64 -> Int -> Option (List UInt64 × Unit)) (a0 b1 m2 : List UInt64) (n7 : Int) (inv8 : UInt64) (i9 : Int) : Option (List UInt64 × Unit) :=
  cond (hide (ltI i9 (6 : Int))) (must (ltI (0 : Int) (↑m2.length : Int)) (A_4 a0 b1 m2 n7 (hide (inv8 * hide ((2 : UInt64) - hide (List.getD m2 (0 : Nat) (0 : UInt64) * inv8)))) (hide (wr (i9 + (1 : Int)))))) (must (leI (0 : Int) (hide (wr (n7 + (2 : Int)))) && (eqI (hide (wr (n7 + (2 : Int)))) (hide (wr (n7 + (2 : Int)))) && leN (Int.toNat (hide (wr (n7 + (2 : Int)))) * (8 : Nat)) (140737488355328 : Nat))) (zlg N N a0 b1 m2 n7 (hide ((0 : UInt64) - inv8)) (0 : Int) (List.replicate (Int.toNat (hide (wr (n7 + (2 : Int))))) (0 : UInt64))))
def zpG (N n : Nat) (a0 b1 m2 : List UInt64) (n7 : Int) (inv8 : UInt64) (i9 : Int) : Option (List UInt64 × Unit) :=
  zam (fun A x => zpF N (fun a0 b1 m2 n7 inv8 i9 => A ((a0, (b1, (m2, (n7, (inv8, (i9, ())))))), ())) x.1.1 x.1.2.1 x.1.2.2.1 x.1.2.2.2.1 x.1.2.2.2.2.1 x.1.2.2.2.2.2.1) n ((a0, (b1, (m2, (n7, (inv8, (i9, ())))))), ())
def p184 (N : Nat) (a0 b1 m2 : List UInt64) : Option (List UInt64 × Unit) :=
  must (ltI (0 : Int) (↑m2.length : Int)) (zpG N N a0 b1 m2 ((↑m2.length : Int)) (List.getD m2 (0 : Nat) (0 : UInt64)) (0 : Int))
def g184 (N : Nat) : Sg := sgK [(K.ro .u64), (K.ro .u64), (K.ro .u64)] [(K.view .u64)] fun x => p184 N x.1 x.2.1 x.2.2.1
def zxT : List (Nat × Head) := [
    (4, ⟨⟨222, [(0, .u (.c (.ro .u64))), (1, .u (.c (.ro .u64))), (2, .u (.c (.ro .u64))), (7, .u (.c (.int))), (8, .u (.c (.u64))), (9, .u (.c (.int)))], []⟩, .exit 0⟩),
    (10, ⟨⟨222, [(0, .u (.c (.ro .u64))), (1, .u (.c (.ro .u64))), (2, .u (.c (.ro .u64))), (7, .u (.c (.int))), (8, .u (.c (.u64))), (10, .u (.c (.row 11000000))), (11, .u (.c (.int)))], [(11000000, ⟨true, 0, 42, .vec .u64⟩)]⟩, .exit 2⟩),
    (14, ⟨⟨222, [(0, .u (.c (.ro .u64))), (1, .u (.c (.ro .u64))), (2, .u (.c (.ro .u64))), (7, .u (.c (.int))), (8, .u (.c (.u64))), (10, .u (.c (.row 15000000))), (11, .u (.c (.int))), (12, .u (.c (.u64))), (13, .u (.c (.int)))], [(15000000, ⟨true, 0, 42, .vec .u64⟩)]⟩, .exit 4⟩),
    (27, ⟨⟨222, [(0, .u (.c (.ro .u64))), (1, .u (.c (.ro .u64))), (2, .u (.c (.ro .u64))), (7, .u (.c (.int))), (8, .u (.c (.u64))), (10, .u (.c (.row 28000000))), (11, .u (.c (.int))), (12, .u (.c (.u64))), (21, .u (.c (.u64))), (24, .u (.c (.int)))], [(28000000, ⟨true, 0, 42, .vec .u64⟩)]⟩, .exit 6⟩)]
def zxU (N : Nat) : List (Nat × Sg) := [(163, g163 N), (164, sg3 kAdd), (168, g168 N), (214, g214 N)]
theorem zpH (N : Nat) : zaO Try.prog pd.els (zxU N) := ⟨zpg N, ⟨zeM, ⟨zk9 N, ⟨zpE N, trivial⟩⟩⟩⟩
theorem zvH (N : Nat) : SgOK Try.prog pd.els 184 (g184 N) :=
  zaB zaQ (zak (zpH N)) Try.func184 (zar (by kernel_rfl)) [(K.ro .u64), (K.ro .u64), (K.ro .u64)] [(K.view .u64)] _ N zxT 4 fun x => by kernel_rfl
def p175 (N : Nat) (a0 : List UInt64) : Option (Fr × Unit) :=
  must (Nat.beq (List.length (zap [(0 : UInt64), (0 : UInt64), (0 : UInt64), (0 : UInt64)] (Int.toNat (0 : Int)) (List.take (Int.toNat ((↑(4 : Nat) : Int) - (0 : Int))) a0))) (4 : Nat)) (Option.bind (Fr.of? (zap [(0 : UInt64), (0 : UInt64), (0 : UInt64), (0 : UInt64)] (Int.toNat (0 : Int)) (List.take (Int.toNat ((↑(4 : Nat) : Int) - (0 : Int))) a0))) fun r0 => some ((r0, ())))
def g175 (N : Nat) : Sg := sgK [(K.ro .u64)] [K.fr] fun x => p175 N x.1
def zxV : List (Nat × Head) := [
    ]
def zxW (N : Nat) : List (Nat × Sg) := []
theorem zpI (N : Nat) : zaO Try.prog pd.els (zxW N) := trivial
theorem zlh (N : Nat) : SgOK Try.prog pd.els 175 (g175 N) :=
  zaB zaQ (zak (zpI N)) Try.func175 (zar (by kernel_rfl)) [(K.ro .u64)] [K.fr] _ N zxV 4 fun x => by kernel_rfl
def p94 (N : Nat) (a0 b1 : Fr) : Option (Fr × Unit) :=
  Option.bind (p88 N) fun r0 => Option.bind (p184 N (List.take (Int.toNat ((↑(4 : Nat) : Int) - (0 : Int))) [Fr.a0 a0, Fr.a1 a0, Fr.a2 a0, Fr.a3 a0]) (List.take (Int.toNat ((↑(4 : Nat) : Int) - (0 : Int))) [Fr.a0 b1, Fr.a1 b1, Fr.a2 b1, Fr.a3 b1]) r0.1) fun r1 => Option.bind (p184 N (List.take r1.1.length (List.drop (0 : Nat) r1.1)) ([(14526898881837571181 : UInt64), (3129137299524312099 : UInt64), (419701826671360399 : UInt64), (524908885293268753 : UInt64)]) r0.1) fun r2 => Option.bind (p175 N (List.take r2.1.length (List.drop (0 : Nat) r2.1))) fun r3 => some (({ a0 := Fr.a0 r3.1, a1 := Fr.a1 r3.1, a2 := Fr.a2 r3.1, a3 := Fr.a3 r3.1 }, ()))
def g94 (N : Nat) : Sg := sgK [K.fr, K.fr] [K.fr] fun x => p94 N x.1 x.2.1
def zAR : List (Nat × Head) := [
    ]
def zAS (N : Nat) : List (Nat × Sg) := [(88, g88 N), (184, g184 N), (175, g175 N)]
theorem zsM (N : Nat) : zaO Try.prog pd.els (zAS N) := ⟨zmE N, ⟨zvH N, ⟨zlh N, trivial⟩⟩⟩
theorem zul (N : Nat) : SgOK Try.prog pd.els 94 (g94 N) :=
  zaB zaQ (zak (zsM N)) Try.func94 (zar (by kernel_rfl)) [K.fr, K.fr] [K.fr] _ N zAR 4 fun x => by kernel_rfl
def zvI (N : Nat) (A_3 : (List UInt64) -> Int -> (List UInt64) -> (List UInt64) -> (List UInt64) -> Option (Fr × Unit)) (e1 : List UInt64) (i6 : Int) (ob0 ob1 ob2 : List UInt64) : Option (Fr × Unit) :=
  let u1 := hide (wr (i6 - (1 : Int)))
  cond (hide (leI (0 : Int) i6)) (Option.bind (Option.bind (Option.bind (Fr.of? ob2) fun r1 => Option.bind (Option.bind (Fr.of? ob2) fun r2 => some ((r2, ()))) fun r3 => some ((r1, r3))) fun r4 => p94 N r4.1 (r4.2.1)) fun r5 => Option.bind (p162 N e1 i6) fun r6 => cond (hide (Prod.fst r6 == (1 : UInt64))) (Option.bind (Option.bind (Option.bind (Option.bind (Fr.of? ob0) fun r7 => some ((r7, ()))) fun r8 => some (({ a0 := Fr.a0 r5.1, a1 := Fr.a1 r5.1, a2 := Fr.a2 r5.1, a3 := Fr.a3 r5.1 }, r8))) fun r9 => p94 N r9.1 (r9.2.1)) fun r10 => A_3 e1 u1 ob0 ob1 ([Fr.a0 r10.1, Fr.a1 r10.1, Fr.a2 r10.1, Fr.a3 r10.1])) (A_3 e1 u1 ob0 ob1 ([Fr.a0 r5.1, Fr.a1 r5.1, Fr.a2 r5.1, Fr.a3 r5.1]))) (must (Nat.beq ob2.length (4 : Nat)) (Option.bind (Fr.of? ob2) fun r0 => some ((r0, ()))))
def zvJ (N n : Nat) (e1 : List UInt64) (i6 : Int) (ob0 ob1 ob2 : List UInt64) : Option (Fr × Unit) :=
  zam (fun A x => zvI N (fun e1 i6 ob0 ob1 ob2 => A ((e1, ((), ((), ((), (i6, ()))))), (ob0, (ob1, (ob2, ()))))) x.1.1 x.1.2.2.2.2.1 x.2.1 x.2.2.1 x.2.2.2.1) n ((e1, ((), ((), ((), (i6, ()))))), (ob0, (ob1, (ob2, ()))))
def p73 (N : Nat) (a0 : Fr) (e1 : List UInt64) : Option (Fr × Unit) :=
  Option.bind (p173 N (1 : UInt64)) fun r0 => zvJ N N e1 (hide (wr (hide (wr ((64 : Int) * (↑e1.length : Int))) - (1 : Int)))) ([Fr.a0 a0, Fr.a1 a0, Fr.a2 a0, Fr.a3 a0]) ([(0 : UInt64), (0 : UInt64), (0 : UInt64), (0 : UInt64)]) ([Fr.a0 r0.1, Fr.a1 r0.1, Fr.a2 r0.1, Fr.a3 r0.1])
def g73 (N : Nat) : Sg := sgK [K.fr, (K.ro .u64)] [K.fr] fun x => p73 N x.1 x.2.1
def zAT : List (Nat × Head) := [
    (3, ⟨⟨27, [(1, .u (.c (.ro .u64))), (2, .u (.c (.ptr0 4000000 0))), (4, .u (.c (.ptr0 4000001 0))), (5, .u (.c (.ptr0 4000002 0))), (6, .u (.c (.int)))], [(4000000, ⟨false, 4, 53, .vec .u64⟩), (4000001, ⟨false, 4, 53, .vec .u64⟩), (4000002, ⟨false, 4, 53, .vec .u64⟩)]⟩, .exit 0⟩)]
def zAU (N : Nat) : List (Nat × Sg) := [(173, g173 N), (94, g94 N), (162, g162 N)]
theorem zsN (N : Nat) : zaO Try.prog pd.els (zAU N) := ⟨zla N, ⟨zul N, ⟨zvC N, trivial⟩⟩⟩
theorem zxX (N : Nat) : SgOK Try.prog pd.els 73 (g73 N) :=
  zaB zaQ (zak (zsN N)) Try.func73 (zar (by kernel_rfl)) [K.fr, (K.ro .u64)] [K.fr] _ N zAT 4 fun x => by kernel_rfl
def zvK (N : Nat) (A_4 : UInt64 -> Int -> (List UInt64) -> (List UInt64) -> (List UInt64) -> (List UInt64) -> Option (Fr × Unit)) (carry6 : UInt64) (t8 : Int) (ob0 ob1 ob2 ob3 : List UInt64) : Option (Fr × Unit) :=
  cond (hide (ltI t8 (4 : Int))) (must (leI (0 : Int) t8 && ltI t8 (↑(4 : Nat) : Int)) (must (leI (0 : Int) t8 && ltI t8 (↑(4 : Nat) : Int)) (Option.bind (kAdd (List.getD ob0 t8.toNat (0 : UInt64)) (List.getD ob1 t8.toNat (0 : UInt64)) carry6) fun r3 => must (leI (0 : Int) t8 && ltI t8 (↑(4 : Nat) : Int)) (A_4 r3.2 (hide (wr (t8 + (1 : Int)))) ob0 ob1 ob2 (setL ob3 t8.toNat r3.1))))) (Option.bind (Option.bind (Option.bind (Fr.of? ob3) fun r0 => some ((r0, carry6, ()))) fun r1 => p174 N r1.1 (r1.2.1)) fun r2 => some (({ a0 := Fr.a0 r2.1, a1 := Fr.a1 r2.1, a2 := Fr.a2 r2.1, a3 := Fr.a3 r2.1 }, ())))
def zvL (N n : Nat) (carry6 : UInt64) (t8 : Int) (ob0 ob1 ob2 ob3 : List UInt64) : Option (Fr × Unit) :=
  zam (fun A x => zvK N (fun carry6 t8 ob0 ob1 ob2 ob3 => A (((), ((), ((), ((), (carry6, (t8, ())))))), (ob0, (ob1, (ob2, (ob3, ())))))) x.1.2.2.2.2.1 x.1.2.2.2.2.2.1 x.2.1 x.2.2.1 x.2.2.2.1 x.2.2.2.2.1) n (((), ((), ((), ((), (carry6, (t8, ())))))), (ob0, (ob1, (ob2, (ob3, ())))))
def p80 (N : Nat) (a0 b1 : Fr) : Option (Fr × Unit) :=
  zvL N N (0 : UInt64) (0 : Int) ([Fr.a0 a0, Fr.a1 a0, Fr.a2 a0, Fr.a3 a0]) ([Fr.a0 b1, Fr.a1 b1, Fr.a2 b1, Fr.a3 b1]) ([(0 : UInt64), (0 : UInt64), (0 : UInt64), (0 : UInt64)]) ([(0 : UInt64), (0 : UInt64), (0 : UInt64), (0 : UInt64)])
def g80 (N : Nat) : Sg := sgK [K.fr, K.fr] [K.fr] fun x => p80 N x.1 x.2.1
def zAV : List (Nat × Head) := [
    (4, ⟨⟨28, [(2, .u (.c (.ptr0 5000000 0))), (3, .u (.c (.ptr0 5000001 0))), (4, .u (.c (.ptr0 5000002 0))), (5, .u (.c (.ptr0 5000003 0))), (6, .u (.c (.u64))), (8, .u (.c (.int)))], [(5000000, ⟨false, 4, 53, .vec .u64⟩), (5000001, ⟨false, 4, 53, .vec .u64⟩), (5000002, ⟨false, 4, 53, .vec .u64⟩), (5000003, ⟨false, 4, 53, .vec .u64⟩)]⟩, .exit 0⟩)]
def zAW (N : Nat) : List (Nat × Sg) := [(164, sg3 kAdd), (174, g174 N)]
theorem zsO (N : Nat) : zaO Try.prog pd.els (zAW N) := ⟨zeM, ⟨zpn N, trivial⟩⟩
theorem zum (N : Nat) : SgOK Try.prog pd.els 80 (g80 N) :=
  zaB zaQ (zak (zsO N)) Try.func80 (zar (by kernel_rfl)) [K.fr, K.fr] [K.fr] _ N zAV 4 fun x => by kernel_rfl
def zpJ (N : Nat) (A_4 : (List UInt64) -> (List UInt64) -> (List UInt64) -> UInt64 -> Int -> (List UInt64) -> Option (List UInt64 × Unit)) (a0 b1 m2 : List UInt64) (c8 : UInt64) (i9 : Int) (t7o : List UInt64) : Option (List UInt64 × Unit) :=
  let u1 := ltN (0 : Nat) t7o.length
  cond (hide (ltI i9 (↑m2.length : Int))) (must (leI (0 : Int) i9 && ltI i9 (↑a0.length : Int)) (must (leI (0 : Int) i9 && ltI i9 (↑b1.length : Int)) (Option.bind (kAdd (List.getD a0 i9.toNat (0 : UInt64)) (List.getD b1 i9.toNat (0 : UInt64)) c8) fun r3 => must (leI (0 : Int) i9 && ltI i9 (↑t7o.length : Int)) (A_4 a0 b1 m2 r3.2 (hide (wr (i9 + (1 : Int)))) (setL t7o i9.toNat r3.1))))) (cond (hide (c8 == (1 : UInt64))) (must u1 (Option.bind (p214 N t7o m2) fun r2 => must (Nat.beq r2.1.length t7o.length) (some ((Prod.fst r2, ()))))) (Option.bind (p168 N t7o m2) fun r0 => cond (hide !r0.1) (must u1 (Option.bind (p214 N t7o m2) fun r1 => must (Nat.beq r1.1.length t7o.length) (some ((Prod.fst r1, ()))))) (some ((t7o, ())))))
def zpK (N n : Nat) (a0 b1 m2 : List UInt64) (c8 : UInt64) (i9 : Int) (t7o : List UInt64) : Option (List UInt64 × Unit) :=
  zam (fun A x => zpJ N (fun a0 b1 m2 c8 i9 t7o => A ((a0, (b1, (m2, ((), (c8, (i9, ())))))), (t7o, ()))) x.1.1 x.1.2.1 x.1.2.2.1 x.1.2.2.2.2.1 x.1.2.2.2.2.2.1 x.2.1) n ((a0, (b1, (m2, ((), (c8, (i9, ())))))), (t7o, ()))
def p176 (N : Nat) (a0 b1 m2 : List UInt64) : Option (List UInt64 × Unit) :=
  must (eqI (↑m2.length : Int) (↑m2.length : Int) && leN (Int.toNat (↑m2.length : Int) * (8 : Nat)) (140737488355328 : Nat)) (zpK N N a0 b1 m2 (0 : UInt64) (0 : Int) (List.replicate (Int.toNat (↑m2.length : Int)) (0 : UInt64)))
def g176 (N : Nat) : Sg := sgK [(K.ro .u64), (K.ro .u64), (K.ro .u64)] [(K.ro .u64)] fun x => p176 N x.1 x.2.1 x.2.2.1
def zxY : List (Nat × Head) := [
    (4, ⟨⟨47, [(0, .u (.c (.ro .u64))), (1, .u (.c (.ro .u64))), (2, .u (.c (.ro .u64))), (7, .u (.c (.row 5000000))), (8, .u (.c (.u64))), (9, .u (.c (.int)))], [(5000000, ⟨true, 0, 42, .vec .u64⟩)]⟩, .exit 0⟩)]
def zxZ (N : Nat) : List (Nat × Sg) := [(164, sg3 kAdd), (168, g168 N), (214, g214 N)]
theorem zpL (N : Nat) : zaO Try.prog pd.els (zxZ N) := ⟨zeM, ⟨zk9 N, ⟨zpE N, trivial⟩⟩⟩
theorem zvM (N : Nat) : SgOK Try.prog pd.els 176 (g176 N) :=
  zaB zaQ (zak (zpL N)) Try.func176 (zar (by kernel_rfl)) [(K.ro .u64), (K.ro .u64), (K.ro .u64)] [(K.ro .u64)] _ N zxY 4 fun x => by kernel_rfl
def p81 (N : Nat) (a0 b1 : Fr) : Option (Fr × Unit) :=
  Option.bind (p88 N) fun r0 => Option.bind (p176 N (List.take (Int.toNat ((↑(4 : Nat) : Int) - (0 : Int))) [Fr.a0 a0, Fr.a1 a0, Fr.a2 a0, Fr.a3 a0]) (List.take (Int.toNat ((↑(4 : Nat) : Int) - (0 : Int))) [Fr.a0 b1, Fr.a1 b1, Fr.a2 b1, Fr.a3 b1]) r0.1) fun r1 => Option.bind (p175 N r1.1) fun r2 => some (({ a0 := Fr.a0 r2.1, a1 := Fr.a1 r2.1, a2 := Fr.a2 r2.1, a3 := Fr.a3 r2.1 }, ()))
def g81 (N : Nat) : Sg := sgK [K.fr, K.fr] [K.fr] fun x => p81 N x.1 x.2.1
def zAX : List (Nat × Head) := [
    ]
def zAY (N : Nat) : List (Nat × Sg) := [(88, g88 N), (176, g176 N), (175, g175 N)]
theorem zsP (N : Nat) : zaO Try.prog pd.els (zAY N) := ⟨zmE N, ⟨zvM N, ⟨zlh N, trivial⟩⟩⟩
theorem zun (N : Nat) : SgOK Try.prog pd.els 81 (g81 N) :=
  zaB zaQ (zak (zsP N)) Try.func81 (zar (by kernel_rfl)) [K.fr, K.fr] [K.fr] _ N zAX 4 fun x => by kernel_rfl
def zli (N : Nat) (A_10 : (List UInt64) -> UInt64 -> Int -> (List UInt64) -> Option (List UInt64 × Unit)) (m2 : List UInt64) (c8 : UInt64) (i10 : Int) (t7o : List UInt64) : Option (List UInt64 × Unit) :=
  cond (hide (ltI i10 (↑m2.length : Int))) (must (leI (0 : Int) i10 && ltI i10 (↑t7o.length : Int)) (must (leI (0 : Int) i10 && ltI i10 (↑m2.length : Int)) (Option.bind (kAdd (List.getD t7o i10.toNat (0 : UInt64)) (List.getD m2 i10.toNat (0 : UInt64)) c8) fun r0 => must (leI (0 : Int) i10 && ltI i10 (↑t7o.length : Int)) (A_10 m2 r0.2 (hide (wr (i10 + (1 : Int)))) (setL t7o i10.toNat r0.1))))) (some ((t7o, ())))
def zlj (N n : Nat) (m2 : List UInt64) (c8 : UInt64) (i10 : Int) (t7o : List UInt64) : Option (List UInt64 × Unit) :=
  zam (fun A x => zli N (fun m2 c8 i10 t7o => A ((m2, ((), (c8, (i10, ())))), (t7o, ()))) x.1.1 x.1.2.2.1 x.1.2.2.2.1 x.2.1) n ((m2, ((), (c8, (i10, ())))), (t7o, ()))
def zpM (N : Nat) (A_4 : (List UInt64) -> (List UInt64) -> (List UInt64) -> UInt64 -> Int -> (List UInt64) -> Option (List UInt64 × Unit)) (a0 b1 m2 : List UInt64) (c8 : UInt64) (i9 : Int) (t7o : List UInt64) : Option (List UInt64 × Unit) :=
  cond (hide (ltI i9 (↑m2.length : Int))) (must (leI (0 : Int) i9 && ltI i9 (↑a0.length : Int)) (must (leI (0 : Int) i9 && ltI i9 (↑b1.length : Int)) (Option.bind (kSub (List.getD a0 i9.toNat (0 : UInt64)) (List.getD b1 i9.toNat (0 : UInt64)) c8) fun r0 => must (leI (0 : Int) i9 && ltI i9 (↑t7o.length : Int)) (A_4 a0 b1 m2 r0.2 (hide (wr (i9 + (1 : Int)))) (setL t7o i9.toNat r0.1))))) (cond (hide (c8 == (1 : UInt64))) (zlj N N m2 (0 : UInt64) (0 : Int) t7o) (some ((t7o, ()))))
def zpN (N n : Nat) (a0 b1 m2 : List UInt64) (c8 : UInt64) (i9 : Int) (t7o : List UInt64) : Option (List UInt64 × Unit) :=
  zam (fun A x => zpM N (fun a0 b1 m2 c8 i9 t7o => A ((a0, (b1, (m2, ((), (c8, (i9, ())))))), (t7o, ()))) x.1.1 x.1.2.1 x.1.2.2.1 x.1.2.2.2.2.1 x.1.2.2.2.2.2.1 x.2.1) n ((a0, (b1, (m2, ((), (c8, (i9, ())))))), (t7o, ()))
def p177 (N : Nat) (a0 b1 m2 : List UInt64) : Option (List UInt64 × Unit) :=
  must (eqI (↑m2.length : Int) (↑m2.length : Int) && leN (Int.toNat (↑m2.length : Int) * (8 : Nat)) (140737488355328 : Nat)) (zpN N N a0 b1 m2 (0 : UInt64) (0 : Int) (List.replicate (Int.toNat (↑m2.length : Int)) (0 : UInt64)))
def g177 (N : Nat) : Sg := sgK [(K.ro .u64), (K.ro .u64), (K.ro .u64)] [(K.ro .u64)] fun x => p177 N x.1 x.2.1 x.2.2.1
def zx0 : List (Nat × Head) := [
    (4, ⟨⟨61, [(0, .u (.c (.ro .u64))), (1, .u (.c (.ro .u64))), (2, .u (.c (.ro .u64))), (7, .u (.c (.row 5000000))), (8, .u (.c (.u64))), (9, .u (.c (.int)))], [(5000000, ⟨true, 0, 42, .vec .u64⟩)]⟩, .exit 0⟩),
    (10, ⟨⟨61, [(2, .u (.c (.ro .u64))), (7, .u (.c (.row 11000000))), (8, .u (.c (.u64))), (10, .u (.c (.int)))], [(11000000, ⟨true, 0, 42, .vec .u64⟩)]⟩, .exit 2⟩)]
def zx1 (N : Nat) : List (Nat × Sg) := [(159, sg3 kSub), (164, sg3 kAdd)]
theorem zpO (N : Nat) : zaO Try.prog pd.els (zx1 N) := ⟨ziR, ⟨zeM, trivial⟩⟩
theorem zvN (N : Nat) : SgOK Try.prog pd.els 177 (g177 N) :=
  zaB zaQ (zak (zpO N)) Try.func177 (zar (by kernel_rfl)) [(K.ro .u64), (K.ro .u64), (K.ro .u64)] [(K.ro .u64)] _ N zx0 4 fun x => by kernel_rfl
def p83 (N : Nat) (a0 b1 : Fr) : Option (Fr × Unit) :=
  Option.bind (p88 N) fun r0 => Option.bind (p177 N (List.take (Int.toNat ((↑(4 : Nat) : Int) - (0 : Int))) [Fr.a0 a0, Fr.a1 a0, Fr.a2 a0, Fr.a3 a0]) (List.take (Int.toNat ((↑(4 : Nat) : Int) - (0 : Int))) [Fr.a0 b1, Fr.a1 b1, Fr.a2 b1, Fr.a3 b1]) r0.1) fun r1 => Option.bind (p175 N r1.1) fun r2 => some (({ a0 := Fr.a0 r2.1, a1 := Fr.a1 r2.1, a2 := Fr.a2 r2.1, a3 := Fr.a3 r2.1 }, ()))
def g83 (N : Nat) : Sg := sgK [K.fr, K.fr] [K.fr] fun x => p83 N x.1 x.2.1
def zAZ : List (Nat × Head) := [
    ]
def zA0 (N : Nat) : List (Nat × Sg) := [(88, g88 N), (177, g177 N), (175, g175 N)]
theorem zsQ (N : Nat) : zaO Try.prog pd.els (zA0 N) := ⟨zmE N, ⟨zvN N, ⟨zlh N, trivial⟩⟩⟩
theorem zx2 (N : Nat) : SgOK Try.prog pd.els 83 (g83 N) :=
  zaB zaQ (zak (zsQ N)) Try.func83 (zar (by kernel_rfl)) [K.fr, K.fr] [K.fr] _ N zAZ 4 fun x => by kernel_rfl
def p85 (N : Nat) (a0 : Fr) : Option (Fr × Unit) :=
  Option.bind (p83 N ({ a0 := (0 : UInt64), a1 := (0 : UInt64), a2 := (0 : UInt64), a3 := (0 : UInt64) }) ({ a0 := Fr.a0 a0, a1 := Fr.a1 a0, a2 := Fr.a2 a0, a3 := Fr.a3 a0 })) fun r0 => some (({ a0 := Fr.a0 r0.1, a1 := Fr.a1 r0.1, a2 := Fr.a2 r0.1, a3 := Fr.a3 r0.1 }, ()))
def g85 (N : Nat) : Sg := sgK [K.fr] [K.fr] fun x => p85 N x.1
def zA1 : List (Nat × Head) := [
    ]
def zA2 (N : Nat) : List (Nat × Sg) := [(83, g83 N)]
theorem zsR (N : Nat) : zaO Try.prog pd.els (zA2 N) := ⟨zx2 N, trivial⟩
theorem zx3 (N : Nat) : SgOK Try.prog pd.els 85 (g85 N) :=
  zaB zaQ (zak (zsR N)) Try.func85 (zar (by kernel_rfl)) [K.fr] [K.fr] _ N zA1 4 fun x => by kernel_rfl
end
section
def p193 (N : Nat) (a0 : Fr) : Option (Fr × Unit) :=
  Option.bind (p76 N (a0) (a0)) fun rr0 => Option.bind (p76 N (rr0.1) (rr0.1)) fun rr1 => Option.bind (p76 N (rr1.1) (a0)) fun rr2 => some ((rr2.1, ()))
def g193 (N : Nat) : Sg := sgK [K.fr] [K.fr] fun x => p193 N x.1
def zx4 : List (Nat × Head) := [
    ]
def zx5 (N : Nat) : List (Nat × Sg) := [(76, g76 N)]
theorem zpP (N : Nat) : zaO Try.prog pd.els (zx5 N) := ⟨zui N, trivial⟩
theorem zvO (N : Nat) : SgOK Try.prog pd.els 193 (g193 N) :=
  zaB zaQ (zak (zpP N)) Try.func193 (zar (by kernel_rfl)) [K.fr] [K.fr] _ N zx4 4 fun x => by kernel_rfl
def p195 (N : Nat) (at0 : Int) (w1 : List Int) : Option (Row × Unit) :=
  let u10 := (0 : Nat) + (1 : Nat) + (1 : Nat)
  let u1 := List.getD w1 u10 (0 : Int)
  let u2 := Fr.zero
  let u3 := List.getD w1 ((0 : Nat) + (1 : Nat)) (0 : Int)
  let u4 := List.getD w1 (0 : Nat) (0 : Int)
  let u5 := eqI at0 (↑((0 : Nat) + (1 : Nat) + (1 : Nat) + (1 : Nat) + (1 : Nat) + (1 : Nat) + (1 : Nat) + (1 : Nat)) : Int)
  let u6 := eqI at0 (↑((0 : Nat) + (1 : Nat) + (1 : Nat) + (1 : Nat) + (1 : Nat) + (1 : Nat) + (1 : Nat)) : Int)
  let u7 := eqI at0 (↑((0 : Nat) + (1 : Nat) + (1 : Nat) + (1 : Nat) + (1 : Nat) + (1 : Nat)) : Int)
  let u8 := eqI at0 (↑((0 : Nat) + (1 : Nat) + (1 : Nat) + (1 : Nat) + (1 : Nat)) : Int)
  let u9 := eqI at0 (↑((0 : Nat) + (1 : Nat) + (1 : Nat) + (1 : Nat)) : Int)
  let u11 := eqI at0 (↑((0 : Nat) + (1 : Nat)) : Int)
  let u12 := eqI at0 (↑(0 : Nat) : Int)
  must (leI (↑(3 : Nat) : Int) (↑w1.length : Int)) (must (leN ((0 : Nat) + (3 : Nat)) w1.length) (Option.bind (p75 N (1 : UInt64)) fun rr0 => cond u12 (must u12 (some ((Row.mk (rr0.1) u2 u2 u2 u2 u2 u2 u2 u4 u3 u1, ())))) (cond u11 (must u11 (some ((Row.mk u2 (rr0.1) u2 u2 u2 u2 u2 u2 u4 u3 u1, ())))) (cond (eqI at0 (↑u10 : Int)) (must (eqI at0 (↑u10 : Int)) (some ((Row.mk u2 u2 (rr0.1) u2 u2 u2 u2 u2 u4 u3 u1, ())))) (cond u9 (must u9 (some ((Row.mk u2 u2 u2 (rr0.1) u2 u2 u2 u2 u4 u3 u1, ())))) (cond u8 (must u8 (some ((Row.mk u2 u2 u2 u2 (rr0.1) u2 u2 u2 u4 u3 u1, ())))) (cond u7 (must u7 (some ((Row.mk u2 u2 u2 u2 u2 (rr0.1) u2 u2 u4 u3 u1, ())))) (cond u6 (must u6 (some ((Row.mk u2 u2 u2 u2 u2 u2 (rr0.1) u2 u4 u3 u1, ())))) (must u5 (must u5 (some ((Row.mk u2 u2 u2 u2 u2 u2 u2 (rr0.1) u4 u3 u1, ())))))))))))))
def g195 (N : Nat) : Sg := sgK [K.int, (K.ro .int)] [(K.st .row)] fun x => p195 N x.1 x.2.1
def zx6 : List (Nat × Head) := [
    ]
def zx7 (N : Nat) : List (Nat × Sg) := [(75, g75 N)]
theorem zpQ (N : Nat) : zaO Try.prog pd.els (zx7 N) := ⟨zuh N, trivial⟩
theorem zvP (N : Nat) : SgOK Try.prog pd.els 195 (g195 N) :=
  zaB zaQ (zak (zpQ N)) Try.func195 (zar (by kernel_rfl)) [K.int, (K.ro .int)] [(K.st .row)] _ N zx6 4 fun x => by kernel_rfl
def zpR (N : Nat) (A_4 : (List Fr) -> Int -> (List Fr) -> Fr -> Fr -> Option (Fr × Unit)) (t37 : List Fr) (t38 : Int) (ob0 : List Fr) (ob1 ob2 : Fr) : Option (Fr × Unit) :=
  cond (hide (ltI t38 (8 : Int))) (must (leI (0 : Int) t38 && (ltI t38 (↑(8 : Nat) : Int) && ltI t38 (↑t37.length : Int))) (must (leI (0 : Int) t38 && ltI t38 (↑(8 : Nat) : Int)) (Option.bind (p76 N ((List.getD ob0 t38.toNat (Fr.zero))) ((List.getD t37 t38.toNat (Fr.zero)))) fun rr0 => Option.bind (p80 N (ob2) (rr0.1)) fun rr1 => A_4 t37 (hide (wr (t38 + (1 : Int)))) ob0 (ob1) (rr1.1)))) (some ((ob2, ())))
def zpS (N n : Nat) (t37 : List Fr) (t38 : Int) (ob0 : List Fr) (ob1 ob2 : Fr) : Option (Fr × Unit) :=
  zam (fun A x => zpR N (fun t37 t38 ob0 ob1 ob2 => A (((), ((), ((), (t37, (t38, ()))))), (ob0, (ob1, (ob2, ()))))) x.1.2.2.2.1 x.1.2.2.2.2.1 x.2.1 x.2.2.1 x.2.2.2.1) n (((), ((), ((), (t37, (t38, ()))))), (ob0, (ob1, (ob2, ()))))
def p106 (N : Nat) (q0 : List Fr) (a1 b2 c3 next4 : Fr) : Option (Fr × Unit) :=
  must (Nat.beq q0.length (8 : Nat)) (Option.bind (p76 N (a1) (b2)) fun rr0 => Option.bind (p75 N (1 : UInt64)) fun rr1 => Option.bind (p76 N (a1) (a1)) fun rr2 => Option.bind (p82 N (rr2.1) (a1)) fun rr3 => Option.bind (p193 N (a1)) fun rr4 => Option.bind (p82 N (rr4.1) (c3)) fun rr5 => Option.bind (p80 N (a1) (b2)) fun rr6 => Option.bind (p82 N (rr6.1) (next4)) fun rr7 => zpS N N ([rr0.1, a1, b2, c3, rr1.1, rr3.1, rr5.1, rr7.1]) (0 : Int) q0 (Fr.zero) (Fr.zero))
def g106 (N : Nat) : Sg := sgK [(K.vec .fr), K.fr, K.fr, K.fr, K.fr] [K.fr] fun x => p106 N x.1 x.2.1 x.2.2.1 x.2.2.2.1 x.2.2.2.2.1
def zx8 : List (Nat × Head) := [
    (4, ⟨⟨51, [(5, .u (.c (.ptr0 5000000 0))), (10, .u (.c (.ptr0 5000001 0))), (12, .u (.c (.ptr0 5000002 0))), (37, .u (.vec .fr)), (38, .u (.c (.int)))], [(5000000, ⟨false, 8, 106, .vec .fr⟩), (5000001, ⟨false, 4, 53, .fr⟩), (5000002, ⟨false, 4, 53, .fr⟩)]⟩, .exit 0⟩)]
def zx9 (N : Nat) : List (Nat × Sg) := [(76, g76 N), (75, g75 N), (82, g82 N), (193, g193 N), (80, g80 N)]
theorem zpT (N : Nat) : zaO Try.prog pd.els (zx9 N) := ⟨zui N, ⟨zuh N, ⟨zuj N, ⟨zvO N, ⟨zum N, trivial⟩⟩⟩⟩⟩
theorem zvQ (N : Nat) : SgOK Try.prog pd.els 106 (g106 N) :=
  zaB zaQ (zak (zpT N)) Try.func106 (zar (by kernel_rfl)) [(K.vec .fr), K.fr, K.fr, K.fr, K.fr] [K.fr] _ N zx8 4 fun x => by kernel_rfl
def p108 (N : Nat) (s0 : Stp) : Option (List Row × Int × Unit) :=
  let u2 := Fr.zero
  let u1 := some (([Row.mk (s0.q0) (s0.q1) (s0.q2) (s0.q3) (s0.q4) u2 u2 u2 (mxI s0.v0 (-1 : Int)) (mxI s0.v1 (-1 : Int)) (mxI s0.v2 (-1 : Int))], (0 : Int), ()))
  let u3 := [Stp.v0 s0, (-1 : Int), (-1 : Int)]
  let u4 := p195 N (6 : Int) ([Stp.v0 s0, (-1 : Int), Stp.v2 s0])
  let u5 := p195 N (7 : Int) ([Stp.v0 s0, Stp.v1 s0, (-1 : Int)])
  let u6 := hide (eqI s0.kind (1 : Int))
  let u7 := hide (eqI s0.kind (2 : Int))
  let u8 := hide (eqI s0.kind (3 : Int))
  let u9 := hide (eqI s0.kind (4 : Int))
  let u10 := hide (eqI s0.kind (5 : Int))
  let u11 := hide (eqI s0.kind (7 : Int))
  let u12 := some (([], (11 : Int), ()))
  let u13 := some (([], (0 : Int), ()))
  cond u6 (cond u6 u13 (cond u7 u1 (cond u8 (Option.bind (p195 N (5 : Int) u3) fun rr7 => some (([rr7.1], (0 : Int), ()))) (cond u9 (Option.bind u4 fun rr6 => some (([rr6.1], (0 : Int), ()))) (cond u10 (Option.bind u5 fun rr5 => some (([rr5.1, Row.mk u2 u2 u2 u2 u2 u2 u2 u2 s0.v2 (-1 : Int) (-1 : Int)], (0 : Int), ()))) (cond u11 (Option.bind (p195 N (1 : Int) u3) fun rr4 => some (([rr4.1], (0 : Int), ()))) u12)))))) (cond (hide (eqI s0.kind (6 : Int))) u13 (cond u7 u1 (cond u8 (Option.bind (p195 N (5 : Int) u3) fun rr3 => some (([rr3.1], (0 : Int), ()))) (cond u9 (Option.bind u4 fun rr2 => some (([rr2.1], (0 : Int), ()))) (cond u10 (Option.bind u5 fun rr1 => some (([rr1.1, Row.mk u2 u2 u2 u2 u2 u2 u2 u2 s0.v2 (-1 : Int) (-1 : Int)], (0 : Int), ()))) (cond u11 (Option.bind (p195 N (1 : Int) u3) fun rr0 => some (([rr0.1], (0 : Int), ()))) u12))))))
def g108 (N : Nat) : Sg := sgK [(K.st .step)] [(K.ro .row), K.int] fun x => p108 N x.1
def zya : List (Nat × Head) := [
    ]
def zyb (N : Nat) : List (Nat × Sg) := [(195, g195 N)]
theorem zpU (N : Nat) : zaO Try.prog pd.els (zyb N) := ⟨zvP N, trivial⟩
theorem zvR (N : Nat) : SgOK Try.prog pd.els 108 (g108 N) :=
  zaB zaQ (zak (zpU N)) Try.func108 (zar (by kernel_rfl)) [(K.st .step)] [(K.ro .row), K.int] _ N zya 4 fun x => by kernel_rfl
end
section
def zrow : Row := Row.mk Fr.zero Fr.zero Fr.zero Fr.zero Fr.zero Fr.zero Fr.zero Fr.zero (0 : Int) (0 : Int) (0 : Int)
def zaX (x y : Row) : Bool := Fr.a0 x.q0 == Fr.a0 y.q0 && (Fr.a1 x.q0 == Fr.a1 y.q0 && (Fr.a2 x.q0 == Fr.a2 y.q0 && (Fr.a3 x.q0 == Fr.a3 y.q0 && true))) && (Fr.a0 x.q1 == Fr.a0 y.q1 && (Fr.a1 x.q1 == Fr.a1 y.q1 && (Fr.a2 x.q1 == Fr.a2 y.q1 && (Fr.a3 x.q1 == Fr.a3 y.q1 && true))) && (Fr.a0 x.q2 == Fr.a0 y.q2 && (Fr.a1 x.q2 == Fr.a1 y.q2 && (Fr.a2 x.q2 == Fr.a2 y.q2 && (Fr.a3 x.q2 == Fr.a3 y.q2 && true))) && (Fr.a0 x.q3 == Fr.a0 y.q3 && (Fr.a1 x.q3 == Fr.a1 y.q3 && (Fr.a2 x.q3 == Fr.a2 y.q3 && (Fr.a3 x.q3 == Fr.a3 y.q3 && true))) && (Fr.a0 x.q4 == Fr.a0 y.q4 && (Fr.a1 x.q4 == Fr.a1 y.q4 && (Fr.a2 x.q4 == Fr.a2 y.q4 && (Fr.a3 x.q4 == Fr.a3 y.q4 && true))) && (Fr.a0 x.q5 == Fr.a0 y.q5 && (Fr.a1 x.q5 == Fr.a1 y.q5 && (Fr.a2 x.q5 == Fr.a2 y.q5 && (Fr.a3 x.q5 == Fr.a3 y.q5 && true))) && (Fr.a0 x.q6 == Fr.a0 y.q6 && (Fr.a1 x.q6 == Fr.a1 y.q6 && (Fr.a2 x.q6 == Fr.a2 y.q6 && (Fr.a3 x.q6 == Fr.a3 y.q6 && true))) && (Fr.a0 x.q7 == Fr.a0 y.q7 && (Fr.a1 x.q7 == Fr.a1 y.q7 && (Fr.a2 x.q7 == Fr.a2 y.q7 && (Fr.a3 x.q7 == Fr.a3 y.q7 && true))) && true))))))) && (eqI x.w0 y.w0 && (eqI x.w1 y.w1 && (eqI x.w2 y.w2 && true)) && true)
end
end Go.Proofs.Ytgimohchocjgcaa.V
