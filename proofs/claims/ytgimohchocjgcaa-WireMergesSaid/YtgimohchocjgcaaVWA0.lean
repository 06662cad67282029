import Derived.Test.YtgimohchocjgcaaVTM
import Derived.KernelRfl
set_option linter.unusedVariables false
set_option linter.unusedSimpArgs false
namespace Go.Proofs.Ytgimohchocjgcaa.V
section
def p75 (N : Nat) (n0 : UInt64) : Option (Fr × Unit) :=
  some (({ a0 := n0, a1 := (0 : UInt64), a2 := (0 : UInt64), a3 := (0 : UInt64) }, ()))
def g75 (N : Nat) : Sg := sgK [K.u64] [K.fr] fun x => p75 N x.1
def zzb : List (Nat × Head) := [
    ]
def zzc (N : Nat) : List (Nat × Sg) := []
theorem zrL (N : Nat) : zaM Try.prog pd.els (zzc N) := trivial
theorem zoH (N : Nat) : SgOK Try.prog pd.els 75 (g75 N) :=
  zaC zaP (zah (zrL N)) Try.func75 (zas (by kernel_rfl)) [K.u64] [K.fr] _ N zzb 4 fun x => by kernel_rfl
def p169 (N : Nat) : Option (Fr × Unit) :=
  some (({ a0 := (18446744069414584321 : UInt64), a1 := (6034159408538082302 : UInt64), a2 := (3691218898639771653 : UInt64), a3 := (8353516859464449352 : UInt64) }, ()))
def g169 (N : Nat) : Sg := sgK [] [K.fr] fun x => p169 N
def zwb : List (Nat × Head) := [
    ]
def zwc (N : Nat) : List (Nat × Sg) := []
theorem zoI (N : Nat) : zaM Try.prog pd.els (zwc N) := trivial
theorem zil (N : Nat) : SgOK Try.prog pd.els 169 (g169 N) :=
  zaC zaP (zah (zoI N)) Try.func169 (zas (by kernel_rfl)) [] [K.fr] _ N zwb 4 fun x => by kernel_rfl
def p213 (N : Nat) : Option (Fr × Unit) :=
  some (({ a0 := (14526898881837571181 : UInt64), a1 := (3129137299524312099 : UInt64), a2 := (419701826671360399 : UInt64), a3 := (524908885293268753 : UInt64) }, ()))
def g213 (N : Nat) : Sg := sgK [] [K.fr] fun x => p213 N
def zwd : List (Nat × Head) := [
    ]
def zwe (N : Nat) : List (Nat × Sg) := []
theorem zoJ (N : Nat) : zaM Try.prog pd.els (zwe N) := trivial
theorem zul (N : Nat) : SgOK Try.prog pd.els 213 (g213 N) :=
  zaC zaP (zah (zoJ N)) Try.func213 (zas (by kernel_rfl)) [] [K.fr] _ N zwd 4 fun x => by kernel_rfl
def zoK (N : Nat) (A_5 : UInt64 -> UInt64 -> Int -> (List UInt64) -> (List UInt64) -> (List UInt64) -> (List UInt64) -> Option (Fr × Unit)) (over1 borrow7 : UInt64) (t10 : Int) (ob0 ob1 ob2 ob3 : List UInt64) : Option (Fr × Unit) :=
  cond (hide (ltI t10 (4 : Int))) (must (leI (0 : Int) t10 && ltI t10 (↑(4 : Nat) : Int)) (must (leI (0 : Int) t10 && ltI t10 (↑(4 : Nat) : Int)) (Option.bind (kSub (List.getD ob0 t10.toNat (0 : UInt64)) (List.getD ob2 t10.toNat (0 : UInt64)) borrow7) fun r2 => must (leI (0 : Int) t10 && ltI t10 (↑(4 : Nat) : Int)) (A_5 over1 r2.2 (hide (wr (t10 + (1 : Int)))) ob0 ob1 ob2 (setL ob3 t10.toNat r2.1))))) (cond (hide (ltN over1.toNat borrow7.toNat)) (must (Nat.beq ob0.length (4 : Nat)) (Option.bind (Fr.of? ob0) fun r1 => some ((r1, ())))) (must (Nat.beq ob3.length (4 : Nat)) (Option.bind (Fr.of? ob3) fun r0 => some ((r0, ())))))
def zoL (N n : Nat) (over1 borrow7 : UInt64) (t10 : Int) (ob0 ob1 ob2 ob3 : List UInt64) : Option (Fr × Unit) :=
  zaj (fun A x => zoK N (fun over1 borrow7 t10 ob0 ob1 ob2 ob3 => A ((over1, ((), ((), ((), ((), (borrow7, (t10, ()))))))), (ob0, (ob1, (ob2, (ob3, ())))))) x.1.1 x.1.2.2.2.2.2.1 x.1.2.2.2.2.2.2.1 x.2.1 x.2.2.1 x.2.2.2.1 x.2.2.2.2.1) n ((over1, ((), ((), ((), ((), (borrow7, (t10, ()))))))), (ob0, (ob1, (ob2, (ob3, ())))))
def p174 (N : Nat) (a0 : Fr) (over1 : UInt64) : Option (Fr × Unit) :=
  Option.bind (p169 N) fun r0 => zoL N N over1 (0 : UInt64) (0 : Int) ([Fr.a0 a0, Fr.a1 a0, Fr.a2 a0, Fr.a3 a0]) ([(0 : UInt64), (0 : UInt64), (0 : UInt64), (0 : UInt64)]) ([Fr.a0 r0.1, Fr.a1 r0.1, Fr.a2 r0.1, Fr.a3 r0.1]) ([(0 : UInt64), (0 : UInt64), (0 : UInt64), (0 : UInt64)])
def g174 (N : Nat) : Sg := sgK [K.fr, K.u64] [K.fr] fun x => p174 N x.1 x.2.1
def zwf : List (Nat × Head) := [
    (5, ⟨⟨32, [(1, .u (.c (.u64))), (2, .u (.c (.ptr0 6000000 0))), (4, .u (.c (.ptr0 6000001 0))), (5, .u (.c (.ptr0 6000002 0))), (6, .u (.c (.ptr0 6000003 0))), (7, .u (.c (.u64))), (10, .u (.c (.int)))], [(6000000, ⟨false, 4, 53, .vec .u64⟩), (6000001, ⟨false, 4, 53, .vec .u64⟩), (6000002, ⟨false, 4, 53, .vec .u64⟩), (6000003, ⟨false, 4, 53, .vec .u64⟩)]⟩, .exit 0⟩)]
def zwg (N : Nat) : List (Nat × Sg) := [(169, g169 N), (159, sg3 kSub)]
theorem zoM (N : Nat) : zaM Try.prog pd.els (zwg N) := ⟨zil N, ⟨zkw, trivial⟩⟩
theorem zum (N : Nat) : SgOK Try.prog pd.els 174 (g174 N) :=
  zaC zaP (zah (zoM N)) Try.func174 (zas (by kernel_rfl)) [K.fr, K.u64] [K.fr] _ N zwf 4 fun x => by kernel_rfl
def zkx (N : Nat) (A_4 : Int -> (List UInt64) -> (List UInt64) -> (List UInt64) -> (List UInt64) -> (List UInt64) -> Option (Fr × Unit)) (A_22 : UInt64 -> UInt64 -> UInt64 -> UInt64 -> Int -> Int -> (List UInt64) -> (List UInt64) -> (List UInt64) -> (List UInt64) -> (List UInt64) -> Option (Fr × Unit)) (c8 top13 more14 x15 : UInt64) (j16 t18 : Int) (ob0 ob1 ob2 ob3 ob4 : List UInt64) : Option (Fr × Unit) :=
  let u1 := hide (wr (j16 - (1 : Int)))
  cond (hide (ltI j16 (4 : Int))) (must (leI (0 : Int) j16 && ltI j16 (↑(4 : Nat) : Int)) (Option.bind (p163 N x15 (List.getD ob3 j16.toNat (0 : UInt64))) fun r1 => must (leI (0 : Int) j16 && ltI j16 (↑(5 : Nat) : Int)) (Option.bind (kAdd (r1.2.1) (List.getD ob4 j16.toNat (0 : UInt64)) (0 : UInt64)) fun r2 => Option.bind (kAdd r2.1 c8 (0 : UInt64)) fun r3 => must (leI (0 : Int) u1 && ltI u1 (↑(5 : Nat) : Int)) (A_22 (hide (hide (Prod.fst r1 + Prod.snd r2) + Prod.snd r3)) top13 more14 x15 (hide (wr (j16 + (1 : Int)))) t18 ob0 ob1 ob2 ob3 (setL ob4 (Int.toNat u1) r3.1))))) (Option.bind (kAdd top13 c8 (0 : UInt64)) fun r0 => A_4 (hide (wr (t18 + (1 : Int)))) ob0 ob1 ob2 ob3 (setL (setL ob4 (3 : Nat) r0.1) (4 : Nat) (hide (more14 + Prod.snd r0))))
def zky (N : Nat) (A_4 : Int -> (List UInt64) -> (List UInt64) -> (List UInt64) -> (List UInt64) -> (List UInt64) -> Option (Fr × Unit)) (n : Nat) (c8 top13 more14 x15 : UInt64) (j16 t18 : Int) (ob0 ob1 ob2 ob3 ob4 : List UInt64) : Option (Fr × Unit) :=
  zaj (fun A x => zkx N A_4 (fun c8 top13 more14 x15 j16 t18 ob0 ob1 ob2 ob3 ob4 => A (((), ((), ((), ((), ((), (c8, (top13, (more14, (x15, (j16, (t18, ()))))))))))), (ob0, (ob1, (ob2, (ob3, (ob4, ()))))))) x.1.2.2.2.2.2.1 x.1.2.2.2.2.2.2.1 x.1.2.2.2.2.2.2.2.1 x.1.2.2.2.2.2.2.2.2.1 x.1.2.2.2.2.2.2.2.2.2.1 x.1.2.2.2.2.2.2.2.2.2.2.1 x.2.1 x.2.2.1 x.2.2.2.1 x.2.2.2.2.1 x.2.2.2.2.2.1) n (((), ((), ((), ((), ((), (c8, (top13, (more14, (x15, (j16, (t18, ()))))))))))), (ob0, (ob1, (ob2, (ob3, (ob4, ()))))))
def zoN (N : Nat) (A_4 : Int -> (List UInt64) -> (List UInt64) -> (List UInt64) -> (List UInt64) -> (List UInt64) -> Option (Fr × Unit)) (A_8 : Int -> UInt64 -> Int -> Int -> (List UInt64) -> (List UInt64) -> (List UInt64) -> (List UInt64) -> (List UInt64) -> Option (Fr × Unit)) (i7 : Int) (c8 : UInt64) (t18 t21 : Int) (ob0 ob1 ob2 ob3 ob4 : List UInt64) : Option (Fr × Unit) :=
  let u1 := hide (List.getD ob4 (0 : Nat) (0 : UInt64) * (18446744069414584319 : UInt64))
  let u2 := leI (0 : Int) t21 && ltI t21 (↑(5 : Nat) : Int)
  cond (hide (ltI t21 (4 : Int))) (must (leI (0 : Int) t21 && ltI t21 (↑(4 : Nat) : Int)) (must (leI (0 : Int) i7 && ltI i7 (↑(4 : Nat) : Int)) (Option.bind (p163 N (List.getD ob0 t21.toNat (0 : UInt64)) (List.getD ob1 i7.toNat (0 : UInt64))) fun r3 => must u2 (Option.bind (kAdd (r3.2.1) (List.getD ob4 t21.toNat (0 : UInt64)) (0 : UInt64)) fun r4 => Option.bind (kAdd r4.1 c8 (0 : UInt64)) fun r5 => must u2 (A_8 i7 (hide (hide (Prod.fst r3 + Prod.snd r4) + Prod.snd r5)) t18 (hide (wr (t21 + (1 : Int)))) ob0 ob1 ob2 ob3 (setL ob4 t21.toNat r5.1)))))) (Option.bind (kAdd (List.getD ob4 (4 : Nat) (0 : UInt64)) c8 (0 : UInt64)) fun r0 => Option.bind (p163 N u1 (List.getD ob3 (0 : Nat) (0 : UInt64))) fun r1 => Option.bind (kAdd (r1.2.1) (List.getD ob4 (0 : Nat) (0 : UInt64)) (0 : UInt64)) fun r2 => zky N A_4 N (hide (Prod.fst r1 + Prod.snd r2)) r0.1 r0.2 u1 (1 : Int) t18 ob0 ob1 ob2 ob3 ob4)
def zoO (N : Nat) (A_4 : Int -> (List UInt64) -> (List UInt64) -> (List UInt64) -> (List UInt64) -> (List UInt64) -> Option (Fr × Unit)) (n : Nat) (i7 : Int) (c8 : UInt64) (t18 t21 : Int) (ob0 ob1 ob2 ob3 ob4 : List UInt64) : Option (Fr × Unit) :=
  zaj (fun A x => zoN N A_4 (fun i7 c8 t18 t21 ob0 ob1 ob2 ob3 ob4 => A (((), ((), ((), ((), ((), (i7, (c8, (t18, (t21, ()))))))))), (ob0, (ob1, (ob2, (ob3, (ob4, ()))))))) x.1.2.2.2.2.2.1 x.1.2.2.2.2.2.2.1 x.1.2.2.2.2.2.2.2.1 x.1.2.2.2.2.2.2.2.2.1 x.2.1 x.2.2.1 x.2.2.2.1 x.2.2.2.2.1 x.2.2.2.2.2.1) n (((), ((), ((), ((), ((), (i7, (c8, (t18, (t21, ()))))))))), (ob0, (ob1, (ob2, (ob3, (ob4, ()))))))
def zoP (N : Nat) (A_4 : Int -> (List UInt64) -> (List UInt64) -> (List UInt64) -> (List UInt64) -> (List UInt64) -> Option (Fr × Unit)) (t18 : Int) (ob0 ob1 ob2 ob3 ob4 : List UInt64) : Option (Fr × Unit) :=
  cond (hide (ltI t18 (4 : Int))) (zoO N A_4 N t18 (0 : UInt64) t18 (0 : Int) ob0 ob1 ob2 ob3 ob4) (must (leN (Int.toNat (0 : Int) + (4 : Nat)) ob4.length) (Option.bind (Option.bind (Option.bind (Fr.of? (List.take (4 : Nat) ob4)) fun r0 => some ((r0, List.getD ob4 (4 : Nat) (0 : UInt64), ()))) fun r1 => p174 N r1.1 (r1.2.1)) fun r2 => some (({ a0 := Fr.a0 r2.1, a1 := Fr.a1 r2.1, a2 := Fr.a2 r2.1, a3 := Fr.a3 r2.1 }, ()))))
def zoQ (N n : Nat) (t18 : Int) (ob0 ob1 ob2 ob3 ob4 : List UInt64) : Option (Fr × Unit) :=
  zaj (fun A x => zoP N (fun t18 ob0 ob1 ob2 ob3 ob4 => A (((), ((), ((), ((), ((), (t18, ())))))), (ob0, (ob1, (ob2, (ob3, (ob4, ()))))))) x.1.2.2.2.2.2.1 x.2.1 x.2.2.1 x.2.2.2.1 x.2.2.2.2.1 x.2.2.2.2.2.1) n (((), ((), ((), ((), ((), (t18, ())))))), (ob0, (ob1, (ob2, (ob3, (ob4, ()))))))
def p172 (N : Nat) (a0 b1 : Fr) : Option (Fr × Unit) :=
  Option.bind (p169 N) fun r0 => zoQ N N (0 : Int) ([Fr.a0 a0, Fr.a1 a0, Fr.a2 a0, Fr.a3 a0]) ([Fr.a0 b1, Fr.a1 b1, Fr.a2 b1, Fr.a3 b1]) ([(0 : UInt64), (0 : UInt64), (0 : UInt64), (0 : UInt64)]) ([Fr.a0 r0.1, Fr.a1 r0.1, Fr.a2 r0.1, Fr.a3 r0.1]) ([(0 : UInt64), (0 : UInt64), (0 : UInt64), (0 : UInt64), (0 : UInt64)])
def g172 (N : Nat) : Sg := sgK [K.fr, K.fr] [K.fr] fun x => p172 N x.1 x.2.1
def zwh : List (Nat × Head) := [
    (4, ⟨⟨139, [(2, .u (.c (.ptr0 5000000 0))), (3, .u (.c (.ptr0 5000001 0))), (4, .u (.c (.ptr0 5000002 0))), (5, .u (.c (.ptr0 5000003 0))), (6, .u (.c (.ptr0 5000004 0))), (18, .u (.c (.int)))], [(5000000, ⟨false, 4, 53, .vec .u64⟩), (5000001, ⟨false, 4, 53, .vec .u64⟩), (5000002, ⟨false, 4, 53, .vec .u64⟩), (5000003, ⟨false, 4, 53, .vec .u64⟩), (5000004, ⟨false, 5, 206, .vec .u64⟩)]⟩, .exit 0⟩),
    (8, ⟨⟨139, [(2, .u (.c (.ptr0 9000000 0))), (3, .u (.c (.ptr0 9000001 0))), (4, .u (.c (.ptr0 9000002 0))), (5, .u (.c (.ptr0 9000003 0))), (6, .u (.c (.ptr0 9000004 0))), (7, .u (.c (.int))), (8, .u (.c (.u64))), (18, .u (.c (.int))), (21, .u (.c (.int)))], [(9000000, ⟨false, 4, 53, .vec .u64⟩), (9000001, ⟨false, 4, 53, .vec .u64⟩), (9000002, ⟨false, 4, 53, .vec .u64⟩), (9000003, ⟨false, 4, 53, .vec .u64⟩), (9000004, ⟨false, 5, 206, .vec .u64⟩)]⟩, .exit 2⟩),
    (22, ⟨⟨139, [(2, .u (.c (.ptr0 23000000 0))), (3, .u (.c (.ptr0 23000001 0))), (4, .u (.c (.ptr0 23000002 0))), (5, .u (.c (.ptr0 23000003 0))), (6, .u (.c (.ptr0 23000004 0))), (8, .u (.c (.u64))), (13, .u (.c (.u64))), (14, .u (.c (.u64))), (15, .u (.c (.u64))), (16, .u (.c (.int))), (18, .u (.c (.int)))], [(23000000, ⟨false, 4, 53, .vec .u64⟩), (23000001, ⟨false, 4, 53, .vec .u64⟩), (23000002, ⟨false, 4, 53, .vec .u64⟩), (23000003, ⟨false, 4, 53, .vec .u64⟩), (23000004, ⟨false, 5, 206, .vec .u64⟩)]⟩, .exit 4⟩)]
def zwi (N : Nat) : List (Nat × Sg) := [(169, g169 N), (163, g163 N), (164, sg3 kAdd), (174, g174 N)]
theorem zoR (N : Nat) : zaM Try.prog pd.els (zwi N) := ⟨zil N, ⟨zoF N, ⟨zii, ⟨zum N, trivial⟩⟩⟩⟩
theorem zim (N : Nat) : SgOK Try.prog pd.els 172 (g172 N) :=
  zaC zaP (zah (zoR N)) Try.func172 (zas (by kernel_rfl)) [K.fr, K.fr] [K.fr] _ N zwh 4 fun x => by kernel_rfl
def p170 (N : Nat) (a0 : Fr) : Option (Fr × Unit) :=
  Option.bind (p213 N) fun r0 => Option.bind (p172 N ({ a0 := Fr.a0 a0, a1 := Fr.a1 a0, a2 := Fr.a2 a0, a3 := Fr.a3 a0 }) ({ a0 := Fr.a0 r0.1, a1 := Fr.a1 r0.1, a2 := Fr.a2 r0.1, a3 := Fr.a3 r0.1 })) fun r1 => some (({ a0 := Fr.a0 r1.1, a1 := Fr.a1 r1.1, a2 := Fr.a2 r1.1, a3 := Fr.a3 r1.1 }, ()))
def g170 (N : Nat) : Sg := sgK [K.fr] [K.fr] fun x => p170 N x.1
def zwj : List (Nat × Head) := [
    ]
def zwk (N : Nat) : List (Nat × Sg) := [(213, g213 N), (172, g172 N)]
theorem zoS (N : Nat) : zaM Try.prog pd.els (zwk N) := ⟨zul N, ⟨zim N, trivial⟩⟩
theorem zoT (N : Nat) : SgOK Try.prog pd.els 170 (g170 N) :=
  zaC zaP (zah (zoS N)) Try.func170 (zas (by kernel_rfl)) [K.fr] [K.fr] _ N zwj 4 fun x => by kernel_rfl
def p171 (N : Nat) (a0 : Fr) : Option (Fr × Unit) :=
  Option.bind (p172 N ({ a0 := Fr.a0 a0, a1 := Fr.a1 a0, a2 := Fr.a2 a0, a3 := Fr.a3 a0 }) ({ a0 := (1 : UInt64), a1 := (0 : UInt64), a2 := (0 : UInt64), a3 := (0 : UInt64) })) fun r0 => some (({ a0 := Fr.a0 r0.1, a1 := Fr.a1 r0.1, a2 := Fr.a2 r0.1, a3 := Fr.a3 r0.1 }, ()))
def g171 (N : Nat) : Sg := sgK [K.fr] [K.fr] fun x => p171 N x.1
def zwl : List (Nat × Head) := [
    ]
def zwm (N : Nat) : List (Nat × Sg) := [(172, g172 N)]
theorem zoU (N : Nat) : zaM Try.prog pd.els (zwm N) := ⟨zim N, trivial⟩
theorem zun (N : Nat) : SgOK Try.prog pd.els 171 (g171 N) :=
  zaC zaP (zah (zoU N)) Try.func171 (zas (by kernel_rfl)) [K.fr] [K.fr] _ N zwl 4 fun x => by kernel_rfl
def zin (N : Nat) (A_1000 : (List UInt64) -> Int -> (List UInt64) -> (List UInt64) -> (List UInt64) -> Option (Fr × Unit)) (e1 : List UInt64) (i7 : Int) (ob0 ob1 ob2 : List UInt64) : Option (Fr × Unit) :=
  let u1 := hide (wr (i7 - (1 : Int)))
  let u2 := hide (wr (Int.tdiv u1 (64 : Int)))
  cond (hide (ltI u1 (0 : Int))) (Option.bind (Option.bind (Option.bind (Fr.of? ob2) fun r9 => some ((r9, ()))) fun r10 => p171 N r10.1) fun r11 => some (({ a0 := Fr.a0 r11.1, a1 := Fr.a1 r11.1, a2 := Fr.a2 r11.1, a3 := Fr.a3 r11.1 }, ()))) (Option.bind (Option.bind (Option.bind (Fr.of? ob2) fun r0 => Option.bind (Option.bind (Fr.of? ob2) fun r1 => some ((r1, ()))) fun r2 => some ((r0, r2))) fun r3 => p172 N r3.1 (r3.2.1)) fun r4 => must (leI (0 : Int) u2 && ltI u2 (↑e1.length : Int)) (cond (hide (hide (hide (zaL (List.getD e1 (Int.toNat u2) (0 : UInt64)) (UInt64.toNat (hide (u64I (hide (Int.tmod u1 (64 : Int))))))) &&& (1 : UInt64)) == (1 : UInt64))) (Option.bind (Option.bind (Option.bind (Option.bind (Fr.of? ob1) fun r5 => some ((r5, ()))) fun r6 => some (({ a0 := Fr.a0 r4.1, a1 := Fr.a1 r4.1, a2 := Fr.a2 r4.1, a3 := Fr.a3 r4.1 }, r6))) fun r7 => p172 N r7.1 (r7.2.1)) fun r8 => A_1000 e1 u1 ob0 ob1 ([Fr.a0 r8.1, Fr.a1 r8.1, Fr.a2 r8.1, Fr.a3 r8.1])) (A_1000 e1 u1 ob0 ob1 ([Fr.a0 r4.1, Fr.a1 r4.1, Fr.a2 r4.1, Fr.a3 r4.1]))))
def zio (N n : Nat) (e1 : List UInt64) (i7 : Int) (ob0 ob1 ob2 : List UInt64) : Option (Fr × Unit) :=
  zaj (fun A x => zin N (fun e1 i7 ob0 ob1 ob2 => A ((e1, ((), ((), ((), (i7, ()))))), (ob0, (ob1, (ob2, ()))))) x.1.1 x.1.2.2.2.2.1 x.2.1 x.2.2.1 x.2.2.2.1) n ((e1, ((), ((), ((), (i7, ()))))), (ob0, (ob1, (ob2, ()))))
def p72 (N : Nat) (a0 : Fr) (e1 : List UInt64) : Option (Fr × Unit) :=
  Option.bind (p170 N ({ a0 := Fr.a0 a0, a1 := Fr.a1 a0, a2 := Fr.a2 a0, a3 := Fr.a3 a0 })) fun r0 => Option.bind (p170 N ({ a0 := (1 : UInt64), a1 := (0 : UInt64), a2 := (0 : UInt64), a3 := (0 : UInt64) })) fun r1 => zio N N e1 (hide (wr ((64 : Int) * (↑e1.length : Int)))) ([(0 : UInt64), (0 : UInt64), (0 : UInt64), (0 : UInt64)]) ([Fr.a0 r0.1, Fr.a1 r0.1, Fr.a2 r0.1, Fr.a3 r0.1]) ([Fr.a0 r1.1, Fr.a1 r1.1, Fr.a2 r1.1, Fr.a3 r1.1])
def g72 (N : Nat) : Sg := sgK [K.fr, (K.ro .u64)] [K.fr] fun x => p72 N x.1 x.2.1
def zzd : List (Nat × Head) := [
    (1000, ⟨⟨38, [(1, .u (.c (.ro .u64))), (4, .u (.c (.ptr0 1001000000 0))), (5, .u (.c (.ptr0 1001000001 0))), (6, .u (.c (.ptr0 1001000002 0))), (7, .u (.c (.int)))], [(1001000000, ⟨false, 4, 53, .vec .u64⟩), (1001000001, ⟨false, 4, 53, .vec .u64⟩), (1001000002, ⟨false, 4, 53, .vec .u64⟩)]⟩, .fall⟩)]
def zze (N : Nat) : List (Nat × Sg) := [(170, g170 N), (171, g171 N), (172, g172 N)]
theorem zrM (N : Nat) : zaM Try.prog pd.els (zze N) := ⟨zoT N, ⟨zun N, ⟨zim N, trivial⟩⟩⟩
theorem zs8 (N : Nat) : SgOK Try.prog pd.els 72 (g72 N) :=
  zaC zaP (zah (zrM N)) Try.func72 (zas (by kernel_rfl)) [K.fr, (K.ro .u64)] [K.fr] _ N zzd 4 fun x => by kernel_rfl
def zuo (N : Nat) (A_6 : Int -> Int -> (List UInt64) -> (List UInt64) -> Option (Fr × Int × Unit)) (A_9 : UInt64 -> Int -> Int -> Int -> (List UInt64) -> (List UInt64) -> Option (Fr × Int × Unit)) (over5 : UInt64) (i6 t19 t20 : Int) (ob0 ob1 : List UInt64) : Option (Fr × Int × Unit) :=
  cond (hide (leI (0 : Int) i6)) (must (leI (0 : Int) i6 && ltI i6 (↑(4 : Nat) : Int)) (must (leI (0 : Int) i6 && ltI i6 (↑(4 : Nat) : Int)) (must (leI (0 : Int) i6 && ltI i6 (↑(4 : Nat) : Int)) (A_9 (hide (zcU (List.getD ob1 i6.toNat (0 : UInt64)) (UInt64.toNat (63 : UInt64)))) (hide (wr (i6 - (1 : Int)))) t19 t20 ob0 (setL ob1 i6.toNat (hide (hide (zaL (List.getD ob1 i6.toNat (0 : UInt64)) (UInt64.toNat (1 : UInt64))) ||| over5))))))) (A_6 t19 (hide (wr (t20 + (1 : Int)))) ob0 ob1)
def zup (N : Nat) (A_6 : Int -> Int -> (List UInt64) -> (List UInt64) -> Option (Fr × Int × Unit)) (n : Nat) (over5 : UInt64) (i6 t19 t20 : Int) (ob0 ob1 : List UInt64) : Option (Fr × Int × Unit) :=
  zaj (fun A x => zuo N A_6 (fun over5 i6 t19 t20 ob0 ob1 => A (((), ((), (over5, (i6, (t19, (t20, ())))))), (ob0, (ob1, ())))) x.1.2.2.1 x.1.2.2.2.1 x.1.2.2.2.2.1 x.1.2.2.2.2.2.1 x.2.1 x.2.2.1) n (((), ((), (over5, (i6, (t19, (t20, ())))))), (ob0, (ob1, ())))
def zuq (N : Nat) (A_6 : Int -> Int -> (List UInt64) -> (List UInt64) -> Option (Fr × Int × Unit)) (t19 t20 : Int) (ob0 ob1 : List UInt64) : Option (Fr × Int × Unit) :=
  cond (hide (ltI t20 t19)) (zup N A_6 N (0 : UInt64) (3 : Int) t19 t20 ob0 ob1) (Option.bind (p75 N (7 : UInt64)) fun r0 => Option.bind (p72 N ({ a0 := Fr.a0 r0.1, a1 := Fr.a1 r0.1, a2 := Fr.a2 r0.1, a3 := Fr.a3 r0.1 }) (List.take (Int.toNat ((↑(4 : Nat) : Int) - (0 : Int))) ob1)) fun r1 => some (({ a0 := Fr.a0 r1.1, a1 := Fr.a1 r1.1, a2 := Fr.a2 r1.1, a3 := Fr.a3 r1.1 }, (0 : Int), ())))
def zur (N n : Nat) (t19 t20 : Int) (ob0 ob1 : List UInt64) : Option (Fr × Int × Unit) :=
  zaj (fun A x => zuq N (fun t19 t20 ob0 ob1 => A (((), ((), (t19, (t20, ())))), (ob0, (ob1, ())))) x.1.2.2.1 x.1.2.2.2.1 x.2.1 x.2.2.1) n (((), ((), (t19, (t20, ())))), (ob0, (ob1, ())))
def p77 (N : Nat) (log0 : Int) : Option (Fr × Int × Unit) :=
  cond (hide (ltI log0 (0 : Int))) (some (({ a0 := (0 : UInt64), a1 := (0 : UInt64), a2 := (0 : UInt64), a3 := (0 : UInt64) }, (1 : Int), ()))) (cond (hide (ltI (32 : Int) log0)) (some (({ a0 := (0 : UInt64), a1 := (0 : UInt64), a2 := (0 : UInt64), a3 := (0 : UInt64) }, (1 : Int), ()))) (Option.bind (p169 N) fun r0 => zur N N log0 (0 : Int) ([(0 : UInt64), (0 : UInt64), (0 : UInt64), (0 : UInt64)]) (setL [Fr.a0 r0.1, Fr.a1 r0.1, Fr.a2 r0.1, Fr.a3 r0.1] (0 : Nat) (hide (Fr.a0 r0.1 - (1 : UInt64))))))
def g77 (N : Nat) : Sg := sgK [K.int] [K.fr, K.int] fun x => p77 N x.1
def zzf : List (Nat × Head) := [
    (6, ⟨⟨42, [(2, .u (.c (.ptr0 7000000 0))), (4, .u (.c (.ptr0 7000001 0))), (19, .u (.c (.int))), (20, .u (.c (.int)))], [(7000000, ⟨false, 4, 53, .vec .u64⟩), (7000001, ⟨false, 4, 53, .vec .u64⟩)]⟩, .exit 0⟩),
    (9, ⟨⟨42, [(2, .u (.c (.ptr0 10000000 0))), (4, .u (.c (.ptr0 10000001 0))), (5, .u (.c (.u64))), (6, .u (.c (.int))), (19, .u (.c (.int))), (20, .u (.c (.int)))], [(10000000, ⟨false, 4, 53, .vec .u64⟩), (10000001, ⟨false, 4, 53, .vec .u64⟩)]⟩, .exit 2⟩)]
def zzg (N : Nat) : List (Nat × Sg) := [(169, g169 N), (75, g75 N), (72, g72 N)]
theorem zrN (N : Nat) : zaM Try.prog pd.els (zzg N) := ⟨zil N, ⟨zoH N, ⟨zs8 N, trivial⟩⟩⟩
theorem zwn (N : Nat) : SgOK Try.prog pd.els 77 (g77 N) :=
  zaC zaP (zah (zrN N)) Try.func77 (zas (by kernel_rfl)) [K.int] [K.fr, K.int] _ N zzf 4 fun x => by kernel_rfl
def p76 (N : Nat) (a0 b1 : Fr) : Option (Fr × Unit) :=
  Option.bind (p172 N ({ a0 := Fr.a0 a0, a1 := Fr.a1 a0, a2 := Fr.a2 a0, a3 := Fr.a3 a0 }) ({ a0 := Fr.a0 b1, a1 := Fr.a1 b1, a2 := Fr.a2 b1, a3 := Fr.a3 b1 })) fun r0 => Option.bind (p170 N ({ a0 := Fr.a0 r0.1, a1 := Fr.a1 r0.1, a2 := Fr.a2 r0.1, a3 := Fr.a3 r0.1 })) fun r1 => some (({ a0 := Fr.a0 r1.1, a1 := Fr.a1 r1.1, a2 := Fr.a2 r1.1, a3 := Fr.a3 r1.1 }, ()))
def g76 (N : Nat) : Sg := sgK [K.fr, K.fr] [K.fr] fun x => p76 N x.1 x.2.1
def zzh : List (Nat × Head) := [
    ]
def zzi (N : Nat) : List (Nat × Sg) := [(172, g172 N), (170, g170 N)]
theorem zrO (N : Nat) : zaM Try.prog pd.els (zzi N) := ⟨zim N, ⟨zoT N, trivial⟩⟩
theorem zwo (N : Nat) : SgOK Try.prog pd.els 76 (g76 N) :=
  zaC zaP (zah (zrO N)) Try.func76 (zas (by kernel_rfl)) [K.fr, K.fr] [K.fr] _ N zzh 4 fun x => by kernel_rfl
def p79 (N : Nat) (a0 : Fr) : Option (Bool × Unit) :=
  Option.bind (p169 N) fun r0 => Option.bind (p61 N (List.take (Int.toNat ((↑(4 : Nat) : Int) - (0 : Int))) [Fr.a0 a0, Fr.a1 a0, Fr.a2 a0, Fr.a3 a0]) (List.take (Int.toNat ((↑(4 : Nat) : Int) - (0 : Int))) [Fr.a0 r0.1, Fr.a1 r0.1, Fr.a2 r0.1, Fr.a3 r0.1])) fun r1 => some ((hide (ltI r1.1 (0 : Int)), ()))
def g79 (N : Nat) : Sg := sgK [K.fr] [K.bool] fun x => p79 N x.1
def zzj : List (Nat × Head) := [
    ]
def zzk (N : Nat) : List (Nat × Sg) := [(169, g169 N), (61, g61 N)]
theorem zrP (N : Nat) : zaM Try.prog pd.els (zzk N) := ⟨zil N, ⟨zvW N, trivial⟩⟩
theorem zwp (N : Nat) : SgOK Try.prog pd.els 79 (g79 N) :=
  zaC zaP (zah (zrP N)) Try.func79 (zas (by kernel_rfl)) [K.fr] [K.bool] _ N zzj 4 fun x => by kernel_rfl
def p88 (N : Nat) : Option (List UInt64 × Unit) :=
  some (([(18446744069414584321 : UInt64), (6034159408538082302 : UInt64), (3691218898639771653 : UInt64), (8353516859464449352 : UInt64)], ()))
def g88 (N : Nat) : Sg := sgK [] [(K.ro .u64)] fun x => p88 N
def zzl : List (Nat × Head) := [
    ]
def zzm (N : Nat) : List (Nat × Sg) := []
theorem zrQ (N : Nat) : zaM Try.prog pd.els (zzm N) := trivial
theorem zl6 (N : Nat) : SgOK Try.prog pd.els 88 (g88 N) :=
  zaC zaP (zah (zrQ N)) Try.func88 (zas (by kernel_rfl)) [] [(K.ro .u64)] _ N zzl 4 fun x => by kernel_rfl
def zoV (N : Nat) (A_2 : (List UInt64) -> (List UInt64) -> Int -> Option (Bool × Unit)) (a0 m1 : List UInt64) (i5 : Int) : Option (Bool × Unit) :=
  cond (hide (leI (0 : Int) i5)) (must (leI (0 : Int) i5 && ltI i5 (↑a0.length : Int)) (must (leI (0 : Int) i5 && ltI i5 (↑m1.length : Int)) (cond (hide !List.getD a0 i5.toNat (0 : UInt64) == List.getD m1 i5.toNat (0 : UInt64)) (must (leI (0 : Int) i5 && ltI i5 (↑a0.length : Int)) (must (leI (0 : Int) i5 && ltI i5 (↑m1.length : Int)) (some ((hide (ltN (UInt64.toNat (List.getD a0 i5.toNat (0 : UInt64))) (UInt64.toNat (List.getD m1 i5.toNat (0 : UInt64)))), ()))))) (A_2 a0 m1 (hide (wr (i5 - (1 : Int)))))))) (some ((false, ())))
def zoW (N n : Nat) (a0 m1 : List UInt64) (i5 : Int) : Option (Bool × Unit) :=
  zaj (fun A x => zoV N (fun a0 m1 i5 => A ((a0, (m1, (i5, ()))), ())) x.1.1 x.1.2.1 x.1.2.2.1) n ((a0, (m1, (i5, ()))), ())
def p168 (N : Nat) (a0 m1 : List UInt64) : Option (Bool × Unit) :=
  zoW N N a0 m1 (hide (wr ((↑m1.length : Int) - (1 : Int))))
def g168 (N : Nat) : Sg := sgK [(K.ro .u64), (K.ro .u64)] [K.bool] fun x => p168 N x.1 x.2.1
def zwq : List (Nat × Head) := [
    (2, ⟨⟨31, [(0, .u (.c (.ro .u64))), (1, .u (.c (.ro .u64))), (5, .u (.c (.int)))], []⟩, .exit 0⟩)]
def zwr (N : Nat) : List (Nat × Sg) := []
theorem zoX (N : Nat) : zaM Try.prog pd.els (zwr N) := trivial
theorem zkz (N : Nat) : SgOK Try.prog pd.els 168 (g168 N) :=
  zaC zaP (zah (zoX N)) Try.func168 (zas (by kernel_rfl)) [(K.ro .u64), (K.ro .u64)] [K.bool] _ N zwq 4 fun x => by kernel_rfl
def p69 (N : Nat) (a0 : Fr) : Option (Bool × Unit) :=
  Option.bind (p88 N) fun r0 => Option.bind (p168 N (List.take (Int.toNat ((↑(4 : Nat) : Int) - (0 : Int))) [Fr.a0 a0, Fr.a1 a0, Fr.a2 a0, Fr.a3 a0]) r0.1) fun r1 => some ((Prod.fst r1, ()))
def g69 (N : Nat) : Sg := sgK [K.fr] [K.bool] fun x => p69 N x.1
def zzn : List (Nat × Head) := [
    ]
def zzo (N : Nat) : List (Nat × Sg) := [(88, g88 N), (168, g168 N)]
theorem zrR (N : Nat) : zaM Try.prog pd.els (zzo N) := ⟨zl6 N, ⟨zkz N, trivial⟩⟩
theorem zws (N : Nat) : SgOK Try.prog pd.els 69 (g69 N) :=
  zaC zaP (zah (zrR N)) Try.func69 (zas (by kernel_rfl)) [K.fr] [K.bool] _ N zzn 4 fun x => by kernel_rfl
def p173 (N : Nat) (n0 : UInt64) : Option (Fr × Unit) :=
  some (({ a0 := n0, a1 := (0 : UInt64), a2 := (0 : UInt64), a3 := (0 : UInt64) }, ()))
def g173 (N : Nat) : Sg := sgK [K.u64] [K.fr] fun x => p173 N x.1
def zwt : List (Nat × Head) := [
    ]
def zwu (N : Nat) : List (Nat × Sg) := []
theorem zoY (N : Nat) : zaM Try.prog pd.els (zwu N) := trivial
theorem zkA (N : Nat) : SgOK Try.prog pd.els 173 (g173 N) :=
  zaC zaP (zah (zoY N)) Try.func173 (zas (by kernel_rfl)) [K.u64] [K.fr] _ N zwt 4 fun x => by kernel_rfl
def zoZ (N : Nat) (A_2 : Nat -> Nat -> (List UInt64) -> UInt64 -> Int -> (List UInt64) -> Option (List UInt64 × Unit)) (t0f t0n : Nat) (m1 : List UInt64) (c4 : UInt64) (i5 : Int) (t0o : List UInt64) : Option (List UInt64 × Unit) :=
  cond (hide (ltI i5 (↑m1.length : Int))) (must (leI (0 : Int) i5 && ltI i5 (↑t0n : Int)) (must (leI (0 : Int) i5 && ltI i5 (↑m1.length : Int)) (Option.bind (kSub (List.getD t0o (t0f + Int.toNat i5) (0 : UInt64)) (List.getD m1 i5.toNat (0 : UInt64)) c4) fun r0 => must (leI (0 : Int) i5 && ltI i5 (↑t0n : Int)) (A_2 t0f t0n m1 r0.2 (hide (wr (i5 + (1 : Int)))) (setL t0o (t0f + Int.toNat i5) r0.1))))) (some ((t0o, ())))
def zo0 (N n t0f t0n : Nat) (m1 : List UInt64) (c4 : UInt64) (i5 : Int) (t0o : List UInt64) : Option (List UInt64 × Unit) :=
  zaj (fun A x => zoZ N (fun t0f t0n m1 c4 i5 t0o => A (((t0f, t0n), (m1, (c4, (i5, ())))), (t0o, ()))) x.1.1.1 x.1.1.2 x.1.2.1 x.1.2.2.1 x.1.2.2.2.1 x.2.1) n (((t0f, t0n), (m1, (c4, (i5, ())))), (t0o, ()))
def p214 (N : Nat) (t0 m1 : List UInt64) : Option (List UInt64 × Unit) :=
  zo0 N N (0 : Nat) t0.length m1 (0 : UInt64) (0 : Int) t0
def g214 (N : Nat) : Sg := sgIO 1 [(K.vec .u64), (K.ro .u64)] [(K.vec .u64)] fun x => p214 N x.1 x.2.1
def zwv : List (Nat × Head) := [
    (2, ⟨⟨28, [(0, .u (.c (.sl 3000000))), (1, .u (.c (.ro .u64))), (4, .u (.c (.u64))), (5, .u (.c (.int)))], [(3000000, ⟨false, 0, 1000000, .vec .u64⟩)]⟩, .exit 0⟩)]
def zww (N : Nat) : List (Nat × Sg) := [(159, sg3 kSub)]
theorem zo1 (N : Nat) : zaM Try.prog pd.els (zww N) := ⟨zkw, trivial⟩
theorem zo2 (N : Nat) : SgOK Try.prog pd.els 214 (g214 N) :=
  zoz zaP (zah (zo1 N)) Try.func214 (zas (by kernel_rfl)) 1 (by decide) [(K.vec .u64), (K.ro .u64)] [(K.vec .u64)] _ N zwv 4 fun x => by kernel_rfl
def zkB (N : Nat) (A_10 : (List UInt64) -> (List UInt64) -> (List UInt64) -> Int -> UInt64 -> Int -> (List UInt64) -> Option (List UInt64 × Unit)) (A_27 : (List UInt64) -> (List UInt64) -> (List UInt64) -> Int -> UInt64 -> Int -> UInt64 -> UInt64 -> Int -> (List UInt64) -> Option (List UInt64 × Unit)) (a0 b1 m2 : List UInt64) (n7 : Int) (inv8 : UInt64) (i11 : Int) (c12 q21 : UInt64) (k24 : Int) (t10o : List UInt64) : Option (List UInt64 × Unit) :=
  let u1 := (↑t10o.length : Int)
  let u2 := hide (wr (n7 - (1 : Int)))
  let u3 := hide (wr (k24 - (1 : Int)))
  let u4 := hide (wr (n7 + (1 : Int)))
  cond (hide (ltI k24 n7)) (must (leI (0 : Int) k24 && ltI k24 (↑m2.length : Int)) (Option.bind (p163 N q21 (List.getD m2 k24.toNat (0 : UInt64))) fun r1 => must (leI (0 : Int) k24 && ltI k24 u1) (Option.bind (kAdd (List.getD t10o k24.toNat (0 : UInt64)) (r1.2.1) (0 : UInt64)) fun r2 => Option.bind (kAdd r2.1 c12 (0 : UInt64)) fun r3 => must (leI (0 : Int) u3 && ltI u3 u1) (A_27 a0 b1 m2 n7 inv8 i11 (hide (hide (Prod.fst r1 + Prod.snd r2) + Prod.snd r3)) q21 (hide (wr (k24 + (1 : Int)))) (setL t10o (Int.toNat u3) r3.1))))) (must (leI (0 : Int) n7 && ltI n7 u1) (Option.bind (kAdd (List.getD t10o n7.toNat (0 : UInt64)) c12 (0 : UInt64)) fun r0 => must (leI (0 : Int) u4 && ltI u4 u1) (must (leI (0 : Int) u2 && ltI u2 u1) (must (leI (0 : Int) n7 && ltI n7 (↑(List.length (setL t10o (Int.toNat u2) r0.1)) : Int)) (A_10 a0 b1 m2 n7 inv8 (hide (wr (i11 + (1 : Int)))) (setL (setL t10o (Int.toNat u2) r0.1) n7.toNat (hide (List.getD t10o (Int.toNat u4) (0 : UInt64) + Prod.snd r0))))))))
def zkC (N : Nat) (A_10 : (List UInt64) -> (List UInt64) -> (List UInt64) -> Int -> UInt64 -> Int -> (List UInt64) -> Option (List UInt64 × Unit)) (n : Nat) (a0 b1 m2 : List UInt64) (n7 : Int) (inv8 : UInt64) (i11 : Int) (c12 q21 : UInt64) (k24 : Int) (t10o : List UInt64) : Option (List UInt64 × Unit) :=
  zaj (fun A x => zkB N A_10 (fun a0 b1 m2 n7 inv8 i11 c12 q21 k24 t10o => A ((a0, (b1, (m2, (n7, (inv8, ((), (i11, (c12, (q21, (k24, ())))))))))), (t10o, ()))) x.1.1 x.1.2.1 x.1.2.2.1 x.1.2.2.2.1 x.1.2.2.2.2.1 x.1.2.2.2.2.2.2.1 x.1.2.2.2.2.2.2.2.1 x.1.2.2.2.2.2.2.2.2.1 x.1.2.2.2.2.2.2.2.2.2.1 x.2.1) n ((a0, (b1, (m2, (n7, (inv8, ((), (i11, (c12, (q21, (k24, ())))))))))), (t10o, ()))
def zkD (N : Nat) (A_10 : (List UInt64) -> (List UInt64) -> (List UInt64) -> Int -> UInt64 -> Int -> (List UInt64) -> Option (List UInt64 × Unit)) (A_14 : (List UInt64) -> (List UInt64) -> (List UInt64) -> Int -> UInt64 -> Int -> UInt64 -> Int -> (List UInt64) -> Option (List UInt64 × Unit)) (a0 b1 m2 : List UInt64) (n7 : Int) (inv8 : UInt64) (i11 : Int) (c12 : UInt64) (k13 : Int) (t10o : List UInt64) : Option (List UInt64 × Unit) :=
  let u3 := hide (wr (n7 + (1 : Int)))
  let u1 := Int.toNat u3
  let u2 := (↑t10o.length : Int)
  let u4 := leI (0 : Int) k13 && ltI k13 u2
  let u5 := leI (0 : Int) n7 && ltI n7 u2
  cond (hide (ltI k13 n7)) (must (leI (0 : Int) i11 && ltI i11 (↑a0.length : Int)) (must (leI (0 : Int) k13 && ltI k13 (↑b1.length : Int)) (Option.bind (p163 N (List.getD a0 i11.toNat (0 : UInt64)) (List.getD b1 k13.toNat (0 : UInt64))) fun r3 => must u4 (Option.bind (kAdd (List.getD t10o k13.toNat (0 : UInt64)) (r3.2.1) (0 : UInt64)) fun r4 => Option.bind (kAdd r4.1 c12 (0 : UInt64)) fun r5 => must u4 (A_14 a0 b1 m2 n7 inv8 i11 (hide (hide (Prod.fst r3 + Prod.snd r4) + Prod.snd r5)) (hide (wr (k13 + (1 : Int)))) (setL t10o k13.toNat r5.1)))))) (must u5 (Option.bind (kAdd (List.getD t10o n7.toNat (0 : UInt64)) c12 (0 : UInt64)) fun r0 => must u5 (must (leI (0 : Int) u3 && ltI u3 (↑(List.length (setL t10o n7.toNat r0.1)) : Int)) (must (ltI (0 : Int) (↑(List.length (setL (setL t10o n7.toNat r0.1) u1 r0.2)) : Int)) (must (ltI (0 : Int) (↑m2.length : Int)) (Option.bind (p163 N (hide (List.getD (setL (setL t10o n7.toNat r0.1) u1 r0.2) (0 : Nat) (0 : UInt64) * inv8)) (List.getD m2 (0 : Nat) (0 : UInt64))) fun r1 => must (ltI (0 : Int) (↑(List.length (setL (setL t10o n7.toNat r0.1) u1 r0.2)) : Int)) (Option.bind (kAdd (List.getD (setL (setL t10o n7.toNat r0.1) u1 r0.2) (0 : Nat) (0 : UInt64)) (r1.2.1) (0 : UInt64)) fun r2 => zkC N A_10 N a0 b1 m2 n7 inv8 i11 (hide (Prod.fst r1 + Prod.snd r2)) (hide (List.getD (setL (setL t10o n7.toNat r0.1) u1 r0.2) (0 : Nat) (0 : UInt64) * inv8)) (1 : Int) (setL (setL t10o n7.toNat r0.1) u1 r0.2))))))))
def zkE (N : Nat) (A_10 : (List UInt64) -> (List UInt64) -> (List UInt64) -> Int -> UInt64 -> Int -> (List UInt64) -> Option (List UInt64 × Unit)) (n : Nat) (a0 b1 m2 : List UInt64) (n7 : Int) (inv8 : UInt64) (i11 : Int) (c12 : UInt64) (k13 : Int) (t10o : List UInt64) : Option (List UInt64 × Unit) :=
  zaj (fun A x => zkD N A_10 (fun a0 b1 m2 n7 inv8 i11 c12 k13 t10o => A ((a0, (b1, (m2, (n7, (inv8, ((), (i11, (c12, (k13, ()))))))))), (t10o, ()))) x.1.1 x.1.2.1 x.1.2.2.1 x.1.2.2.2.1 x.1.2.2.2.2.1 x.1.2.2.2.2.2.2.1 x.1.2.2.2.2.2.2.2.1 x.1.2.2.2.2.2.2.2.2.1 x.2.1) n ((a0, (b1, (m2, (n7, (inv8, ((), (i11, (c12, (k13, ()))))))))), (t10o, ()))
def zkF (N : Nat) (A_10 : (List UInt64) -> (List UInt64) -> (List UInt64) -> Int -> UInt64 -> Int -> (List UInt64) -> Option (List UInt64 × Unit)) (a0 b1 m2 : List UInt64) (n7 : Int) (inv8 : UInt64) (i11 : Int) (t10o : List UInt64) : Option (List UInt64 × Unit) :=
  let u1 := Int.toNat (n7 - (0 : Int))
  let u2 := leI (0 : Int) n7 && leI n7 (↑t10o.length : Int)
  let u3 := ltN (0 : Nat) u1
  let u4 := ltN (0 : Nat) t10o.length
  cond (hide (ltI i11 n7)) (zkE N A_10 N a0 b1 m2 n7 inv8 i11 (0 : UInt64) (0 : Int) t10o) (must (leI (0 : Int) n7 && ltI n7 (↑t10o.length : Int)) (cond (hide !List.getD t10o n7.toNat (0 : UInt64) == (0 : UInt64)) (must u4 (Option.bind (p214 N t10o m2) fun r2 => must (Nat.beq r2.1.length t10o.length) (must (leI (0 : Int) n7 && leI n7 (↑r2.1.length : Int)) (must u3 (some ((List.take u1 r2.1, ()))))))) (must u2 (Option.bind (p168 N (List.take u1 t10o) m2) fun r0 => cond (hide !r0.1) (must u4 (Option.bind (p214 N t10o m2) fun r1 => must (Nat.beq r1.1.length t10o.length) (must (leI (0 : Int) n7 && leI n7 (↑r1.1.length : Int)) (must u3 (some ((List.take u1 r1.1, ()))))))) (must u2 (must u3 (some ((List.take u1 t10o, ())))))))))
def zkG (N n : Nat) (a0 b1 m2 : List UInt64) (n7 : Int) (inv8 : UInt64) (i11 : Int) (t10o : List UInt64) : Option (List UInt64 × Unit) :=
  zaj (fun A x => zkF N (fun a0 b1 m2 n7 inv8 i11 t10o => A ((a0, (b1, (m2, (n7, (inv8, ((), (i11, ()))))))), (t10o, ()))) x.1.1 x.1.2.1 x.1.2.2.1 x.1.2.2.2.1 x.1.2.2.2.2.1 x.1.2.2.2.2.2.2.1 x.2.1) n ((a0, (b1, (m2, (n7, (inv8, ((), (i11, ()))))))), (t10o, ()))
def zo3 (N : Nat) (A_4 : (List UInt64) -> (List UInt64) -> (List UInt64) -> Int -> UInt64 -> Int -> Option (List UInt64 × Unit)) (a0 b1 m2 : List UInt64) (n7 : Int) (inv8 : UInt64) (i9 : Int) : Option (List UInt64 × Unit) :=
  cond (hide (ltI i9 (6 : Int))) (must (ltI (0 : Int) (↑m2.length : Int)) (A_4 a0 b1 m2 n7 (hide (inv8 * hide ((2 : UInt64) - hide (List.getD m2 (0 : Nat) (0 : UInt64) * inv8)))) (hide (wr (i9 + (1 : Int)))))) (must (leI (0 : Int) (hide (wr (n7 + (2 : Int)))) && (eqI (hide (wr (n7 + (2 : Int)))) (hide (wr (n7 + (2 : Int)))) && leN (Int.toNat (hide (wr (n7 + (2 : Int)))) * (8 : Nat)) (140737488355328 : Nat))) (zkG N N a0 b1 m2 n7 (hide ((0 : UInt64) - inv8)) (0 : Int) (List.replicate (Int.toNat (hide (wr (n7 + (2 : Int))))) (0 : UInt64))))
def zo4 (N n : Nat) (a0 b1 m2 : List UInt64) (n7 : Int) (inv8 : UInt64) (i9 : Int) : Option (List UInt64 × Unit) :=
  zaj (fun A x => zo3 N (fun a0 b1 m2 n7 inv8 i9 => A ((a0, (b1, (m2, (n7, (inv8, (i9, ())))))), ())) x.1.1 x.1.2.1 x.1.2.2.1 x.1.2.2.2.1 x.1.2.2.2.2.1 x.1.2.2.2.2.2.1) n ((a0, (b1, (m2, (n7, (inv8, (i9, ())))))), ())
def p184 (N : Nat) (a0 b1 m2 : List UInt64) : Option (List UInt64 × Unit) :=
  must (ltI (0 : Int) (↑m2.length : Int)) (zo4 N N a0 b1 m2 ((↑m2.length : Int)) (List.getD m2 (0 : Nat) (0 : UInt64)) (0 : Int))
def g184 (N : Nat) : Sg := sgK [(K.ro .u64), (K.ro .u64), (K.ro .u64)] [(K.view .u64)] fun x => p184 N x.1 x.2.1 x.2.2.1
def zwx : List (Nat × Head) := [
    (4, ⟨⟨222, [(0, .u (.c (.ro .u64))), (1, .u (.c (.ro .u64))), (2, .u (.c (.ro .u64))), (7, .u (.c (.int))), (8, .u (.c (.u64))), (9, .u (.c (.int)))], []⟩, .exit 0⟩),
    (10, ⟨⟨222, [(0, .u (.c (.ro .u64))), (1, .u (.c (.ro .u64))), (2, .u (.c (.ro .u64))), (7, .u (.c (.int))), (8, .u (.c (.u64))), (10, .u (.c (.row 11000000))), (11, .u (.c (.int)))], [(11000000, ⟨true, 0, 42, .vec .u64⟩)]⟩, .exit 2⟩),
    (14, ⟨⟨222, [(0, .u (.c (.ro .u64))), (1, .u (.c (.ro .u64))), (2, .u (.c (.ro .u64))), (7, .u (.c (.int))), (8, .u (.c (.u64))), (10, .u (.c (.row 15000000))), (11, .u (.c (.int))), (12, .u (.c (.u64))), (13, .u (.c (.int)))], [(15000000, ⟨true, 0, 42, .vec .u64⟩)]⟩, .exit 4⟩),
    (27, ⟨⟨222, [(0, .u (.c (.ro .u64))), (1, .u (.c (.ro .u64))), (2, .u (.c (.ro .u64))), (7, .u (.c (.int))), (8, .u (.c (.u64))), (10, .u (.c (.row 28000000))), (11, .u (.c (.int))), (12, .u (.c (.u64))), (21, .u (.c (.u64))), (24, .u (.c (.int)))], [(28000000, ⟨true, 0, 42, .vec .u64⟩)]⟩, .exit 6⟩)]
def zwy (N : Nat) : List (Nat × Sg) := [(163, g163 N), (164, sg3 kAdd), (168, g168 N), (214, g214 N)]
theorem zo5 (N : Nat) : zaM Try.prog pd.els (zwy N) := ⟨zoF N, ⟨zii, ⟨zkz N, ⟨zo2 N, trivial⟩⟩⟩⟩
theorem zus (N : Nat) : SgOK Try.prog pd.els 184 (g184 N) :=
  zaC zaP (zah (zo5 N)) Try.func184 (zas (by kernel_rfl)) [(K.ro .u64), (K.ro .u64), (K.ro .u64)] [(K.view .u64)] _ N zwx 4 fun x => by kernel_rfl
def p175 (N : Nat) (a0 : List UInt64) : Option (Fr × Unit) :=
  must (Nat.beq (List.length (zao [(0 : UInt64), (0 : UInt64), (0 : UInt64), (0 : UInt64)] (Int.toNat (0 : Int)) (List.take (Int.toNat ((↑(4 : Nat) : Int) - (0 : Int))) a0))) (4 : Nat)) (Option.bind (Fr.of? (zao [(0 : UInt64), (0 : UInt64), (0 : UInt64), (0 : UInt64)] (Int.toNat (0 : Int)) (List.take (Int.toNat ((↑(4 : Nat) : Int) - (0 : Int))) a0))) fun r0 => some ((r0, ())))
def g175 (N : Nat) : Sg := sgK [(K.ro .u64)] [K.fr] fun x => p175 N x.1
def zwz : List (Nat × Head) := [
    ]
def zwA (N : Nat) : List (Nat × Sg) := []
theorem zo6 (N : Nat) : zaM Try.prog pd.els (zwA N) := trivial
theorem zkH (N : Nat) : SgOK Try.prog pd.els 175 (g175 N) :=
  zaC zaP (zah (zo6 N)) Try.func175 (zas (by kernel_rfl)) [(K.ro .u64)] [K.fr] _ N zwz 4 fun x => by kernel_rfl
def p94 (N : Nat) (a0 b1 : Fr) : Option (Fr × Unit) :=
  Option.bind (p88 N) fun r0 => Option.bind (p184 N (List.take (Int.toNat ((↑(4 : Nat) : Int) - (0 : Int))) [Fr.a0 a0, Fr.a1 a0, Fr.a2 a0, Fr.a3 a0]) (List.take (Int.toNat ((↑(4 : Nat) : Int) - (0 : Int))) [Fr.a0 b1, Fr.a1 b1, Fr.a2 b1, Fr.a3 b1]) r0.1) fun r1 => Option.bind (p184 N (List.take r1.1.length (List.drop (0 : Nat) r1.1)) ([(14526898881837571181 : UInt64), (3129137299524312099 : UInt64), (419701826671360399 : UInt64), (524908885293268753 : UInt64)]) r0.1) fun r2 => Option.bind (p175 N (List.take r2.1.length (List.drop (0 : Nat) r2.1))) fun r3 => some (({ a0 := Fr.a0 r3.1, a1 := Fr.a1 r3.1, a2 := Fr.a2 r3.1, a3 := Fr.a3 r3.1 }, ()))
def g94 (N : Nat) : Sg := sgK [K.fr, K.fr] [K.fr] fun x => p94 N x.1 x.2.1
def zzp : List (Nat × Head) := [
    ]
def zzq (N : Nat) : List (Nat × Sg) := [(88, g88 N), (184, g184 N), (175, g175 N)]
theorem zrS (N : Nat) : zaM Try.prog pd.els (zzq N) := ⟨zl6 N, ⟨zus N, ⟨zkH N, trivial⟩⟩⟩
theorem zs9 (N : Nat) : SgOK Try.prog pd.els 94 (g94 N) :=
  zaC zaP (zah (zrS N)) Try.func94 (zas (by kernel_rfl)) [K.fr, K.fr] [K.fr] _ N zzp 4 fun x => by kernel_rfl
def zut (N : Nat) (A_3 : (List UInt64) -> Int -> (List UInt64) -> (List UInt64) -> (List UInt64) -> Option (Fr × Unit)) (e1 : List UInt64) (i6 : Int) (ob0 ob1 ob2 : List UInt64) : Option (Fr × Unit) :=
  let u1 := hide (wr (i6 - (1 : Int)))
  cond (hide (leI (0 : Int) i6)) (Option.bind (Option.bind (Option.bind (Fr.of? ob2) fun r1 => Option.bind (Option.bind (Fr.of? ob2) fun r2 => some ((r2, ()))) fun r3 => some ((r1, r3))) fun r4 => p94 N r4.1 (r4.2.1)) fun r5 => Option.bind (p162 N e1 i6) fun r6 => cond (hide (Prod.fst r6 == (1 : UInt64))) (Option.bind (Option.bind (Option.bind (Option.bind (Fr.of? ob0) fun r7 => some ((r7, ()))) fun r8 => some (({ a0 := Fr.a0 r5.1, a1 := Fr.a1 r5.1, a2 := Fr.a2 r5.1, a3 := Fr.a3 r5.1 }, r8))) fun r9 => p94 N r9.1 (r9.2.1)) fun r10 => A_3 e1 u1 ob0 ob1 ([Fr.a0 r10.1, Fr.a1 r10.1, Fr.a2 r10.1, Fr.a3 r10.1])) (A_3 e1 u1 ob0 ob1 ([Fr.a0 r5.1, Fr.a1 r5.1, Fr.a2 r5.1, Fr.a3 r5.1]))) (must (Nat.beq ob2.length (4 : Nat)) (Option.bind (Fr.of? ob2) fun r0 => some ((r0, ()))))
def zuu (N n : Nat) (e1 : List UInt64) (i6 : Int) (ob0 ob1 ob2 : List UInt64) : Option (Fr × Unit) :=
  zaj (fun A x => zut N (fun e1 i6 ob0 ob1 ob2 => A ((e1, ((), ((), ((), (i6, ()))))), (ob0, (ob1, (ob2, ()))))) x.1.1 x.1.2.2.2.2.1 x.2.1 x.2.2.1 x.2.2.2.1) n ((e1, ((), ((), ((), (i6, ()))))), (ob0, (ob1, (ob2, ()))))
def p73 (N : Nat) (a0 : Fr) (e1 : List UInt64) : Option (Fr × Unit) :=
  Option.bind (p173 N (1 : UInt64)) fun r0 => zuu N N e1 (hide (wr (hide (wr ((64 : Int) * (↑e1.length : Int))) - (1 : Int)))) ([Fr.a0 a0, Fr.a1 a0, Fr.a2 a0, Fr.a3 a0]) ([(0 : UInt64), (0 : UInt64), (0 : UInt64), (0 : UInt64)]) ([Fr.a0 r0.1, Fr.a1 r0.1, Fr.a2 r0.1, Fr.a3 r0.1])
def g73 (N : Nat) : Sg := sgK [K.fr, (K.ro .u64)] [K.fr] fun x => p73 N x.1 x.2.1
def zzr : List (Nat × Head) := [
    (3, ⟨⟨27, [(1, .u (.c (.ro .u64))), (2, .u (.c (.ptr0 4000000 0))), (4, .u (.c (.ptr0 4000001 0))), (5, .u (.c (.ptr0 4000002 0))), (6, .u (.c (.int)))], [(4000000, ⟨false, 4, 53, .vec .u64⟩), (4000001, ⟨false, 4, 53, .vec .u64⟩), (4000002, ⟨false, 4, 53, .vec .u64⟩)]⟩, .exit 0⟩)]
def zzs (N : Nat) : List (Nat × Sg) := [(173, g173 N), (94, g94 N), (162, g162 N)]
theorem zrT (N : Nat) : zaM Try.prog pd.els (zzs N) := ⟨zkA N, ⟨zs9 N, ⟨zuk N, trivial⟩⟩⟩
theorem zwB (N : Nat) : SgOK Try.prog pd.els 73 (g73 N) :=
  zaC zaP (zah (zrT N)) Try.func73 (zas (by kernel_rfl)) [K.fr, (K.ro .u64)] [K.fr] _ N zzr 4 fun x => by kernel_rfl
def zo7 (N : Nat) (A_4 : (List UInt64) -> (List UInt64) -> (List UInt64) -> UInt64 -> Int -> (List UInt64) -> Option (List UInt64 × Unit)) (a0 b1 m2 : List UInt64) (c8 : UInt64) (i9 : Int) (t7o : List UInt64) : Option (List UInt64 × Unit) :=
  let u1 := ltN (0 : Nat) t7o.length
  cond (hide (ltI i9 (↑m2.length : Int))) (must (leI (0 : Int) i9 && ltI i9 (↑a0.length : Int)) (must (leI (0 : Int) i9 && ltI i9 (↑b1.length : Int)) (Option.bind (kAdd (List.getD a0 i9.toNat (0 : UInt64)) (List.getD b1 i9.toNat (0 : UInt64)) c8) fun r3 => must (leI (0 : Int) i9 && ltI i9 (↑t7o.length : Int)) (A_4 a0 b1 m2 r3.2 (hide (wr (i9 + (1 : Int)))) (setL t7o i9.toNat r3.1))))) (cond (hide (c8 == (1 : UInt64))) (must u1 (Option.bind (p214 N t7o m2) fun r2 => must (Nat.beq r2.1.length t7o.length) (some ((Prod.fst r2, ()))))) (Option.bind (p168 N t7o m2) fun r0 => cond (hide !r0.1) (must u1 (Option.bind (p214 N t7o m2) fun r1 => must (Nat.beq r1.1.length t7o.length) (some ((Prod.fst r1, ()))))) (some ((t7o, ())))))
def zo8 (N n : Nat) (a0 b1 m2 : List UInt64) (c8 : UInt64) (i9 : Int) (t7o : List UInt64) : Option (List UInt64 × Unit) :=
  zaj (fun A x => zo7 N (fun a0 b1 m2 c8 i9 t7o => A ((a0, (b1, (m2, ((), (c8, (i9, ())))))), (t7o, ()))) x.1.1 x.1.2.1 x.1.2.2.1 x.1.2.2.2.2.1 x.1.2.2.2.2.2.1 x.2.1) n ((a0, (b1, (m2, ((), (c8, (i9, ())))))), (t7o, ()))
def p176 (N : Nat) (a0 b1 m2 : List UInt64) : Option (List UInt64 × Unit) :=
  must (eqI (↑m2.length : Int) (↑m2.length : Int) && leN (Int.toNat (↑m2.length : Int) * (8 : Nat)) (140737488355328 : Nat)) (zo8 N N a0 b1 m2 (0 : UInt64) (0 : Int) (List.replicate (Int.toNat (↑m2.length : Int)) (0 : UInt64)))
def g176 (N : Nat) : Sg := sgK [(K.ro .u64), (K.ro .u64), (K.ro .u64)] [(K.ro .u64)] fun x => p176 N x.1 x.2.1 x.2.2.1
def zwC : List (Nat × Head) := [
    (4, ⟨⟨47, [(0, .u (.c (.ro .u64))), (1, .u (.c (.ro .u64))), (2, .u (.c (.ro .u64))), (7, .u (.c (.row 5000000))), (8, .u (.c (.u64))), (9, .u (.c (.int)))], [(5000000, ⟨true, 0, 42, .vec .u64⟩)]⟩, .exit 0⟩)]
def zwD (N : Nat) : List (Nat × Sg) := [(164, sg3 kAdd), (168, g168 N), (214, g214 N)]
theorem zo9 (N : Nat) : zaM Try.prog pd.els (zwD N) := ⟨zii, ⟨zkz N, ⟨zo2 N, trivial⟩⟩⟩
theorem zuv (N : Nat) : SgOK Try.prog pd.els 176 (g176 N) :=
  zaC zaP (zah (zo9 N)) Try.func176 (zas (by kernel_rfl)) [(K.ro .u64), (K.ro .u64), (K.ro .u64)] [(K.ro .u64)] _ N zwC 4 fun x => by kernel_rfl
def p81 (N : Nat) (a0 b1 : Fr) : Option (Fr × Unit) :=
  Option.bind (p88 N) fun r0 => Option.bind (p176 N (List.take (Int.toNat ((↑(4 : Nat) : Int) - (0 : Int))) [Fr.a0 a0, Fr.a1 a0, Fr.a2 a0, Fr.a3 a0]) (List.take (Int.toNat ((↑(4 : Nat) : Int) - (0 : Int))) [Fr.a0 b1, Fr.a1 b1, Fr.a2 b1, Fr.a3 b1]) r0.1) fun r1 => Option.bind (p175 N r1.1) fun r2 => some (({ a0 := Fr.a0 r2.1, a1 := Fr.a1 r2.1, a2 := Fr.a2 r2.1, a3 := Fr.a3 r2.1 }, ()))
def g81 (N : Nat) : Sg := sgK [K.fr, K.fr] [K.fr] fun x => p81 N x.1 x.2.1
def zzt : List (Nat × Head) := [
    ]
def zzu (N : Nat) : List (Nat × Sg) := [(88, g88 N), (176, g176 N), (175, g175 N)]
theorem zrU (N : Nat) : zaM Try.prog pd.els (zzu N) := ⟨zl6 N, ⟨zuv N, ⟨zkH N, trivial⟩⟩⟩
theorem zwE (N : Nat) : SgOK Try.prog pd.els 81 (g81 N) :=
  zaC zaP (zah (zrU N)) Try.func81 (zas (by kernel_rfl)) [K.fr, K.fr] [K.fr] _ N zzt 4 fun x => by kernel_rfl
def zkI (N : Nat) (A_10 : (List UInt64) -> UInt64 -> Int -> (List UInt64) -> Option (List UInt64 × Unit)) (m2 : List UInt64) (c8 : UInt64) (i10 : Int) (t7o : List UInt64) : Option (List UInt64 × Unit) :=
  cond (hide (ltI i10 (↑m2.length : Int))) (must (leI (0 : Int) i10 && ltI i10 (↑t7o.length : Int)) (must (leI (0 : Int) i10 && ltI i10 (↑m2.length : Int)) (Option.bind (kAdd (List.getD t7o i10.toNat (0 : UInt64)) (List.getD m2 i10.toNat (0 : UInt64)) c8) fun r0 => must (leI (0 : Int) i10 && ltI i10 (↑t7o.length : Int)) (A_10 m2 r0.2 (hide (wr (i10 + (1 : Int)))) (setL t7o i10.toNat r0.1))))) (some ((t7o, ())))
def zkJ (N n : Nat) (m2 : List UInt64) (c8 : UInt64) (i10 : Int) (t7o : List UInt64) : Option (List UInt64 × Unit) :=
  zaj (fun A x => zkI N (fun m2 c8 i10 t7o => A ((m2, ((), (c8, (i10, ())))), (t7o, ()))) x.1.1 x.1.2.2.1 x.1.2.2.2.1 x.2.1) n ((m2, ((), (c8, (i10, ())))), (t7o, ()))
def zpa (N : Nat) (A_4 : (List UInt64) -> (List UInt64) -> (List UInt64) -> UInt64 -> Int -> (List UInt64) -> Option (List UInt64 × Unit)) (a0 b1 m2 : List UInt64) (c8 : UInt64) (i9 : Int) (t7o : List UInt64) : Option (List UInt64 × Unit) :=
  cond (hide (ltI i9 (↑m2.length : Int))) (must (leI (0 : Int) i9 && ltI i9 (↑a0.length : Int)) (must (leI (0 : Int) i9 && ltI i9 (↑b1.length : Int)) (Option.bind (kSub (List.getD a0 i9.toNat (0 : UInt64)) (List.getD b1 i9.toNat (0 : UInt64)) c8) fun r0 => must (leI (0 : Int) i9 && ltI i9 (↑t7o.length : Int)) (A_4 a0 b1 m2 r0.2 (hide (wr (i9 + (1 : Int)))) (setL t7o i9.toNat r0.1))))) (cond (hide (c8 == (1 : UInt64))) (zkJ N N m2 (0 : UInt64) (0 : Int) t7o) (some ((t7o, ()))))
def zpb (N n : Nat) (a0 b1 m2 : List UInt64) (c8 : UInt64) (i9 : Int) (t7o : List UInt64) : Option (List UInt64 × Unit) :=
  zaj (fun A x => zpa N (fun a0 b1 m2 c8 i9 t7o => A ((a0, (b1, (m2, ((), (c8, (i9, ())))))), (t7o, ()))) x.1.1 x.1.2.1 x.1.2.2.1 x.1.2.2.2.2.1 x.1.2.2.2.2.2.1 x.2.1) n ((a0, (b1, (m2, ((), (c8, (i9, ())))))), (t7o, ()))
def p177 (N : Nat) (a0 b1 m2 : List UInt64) : Option (List UInt64 × Unit) :=
  must (eqI (↑m2.length : Int) (↑m2.length : Int) && leN (Int.toNat (↑m2.length : Int) * (8 : Nat)) (140737488355328 : Nat)) (zpb N N a0 b1 m2 (0 : UInt64) (0 : Int) (List.replicate (Int.toNat (↑m2.length : Int)) (0 : UInt64)))
def g177 (N : Nat) : Sg := sgK [(K.ro .u64), (K.ro .u64), (K.ro .u64)] [(K.ro .u64)] fun x => p177 N x.1 x.2.1 x.2.2.1
def zwF : List (Nat × Head) := [
    (4, ⟨⟨61, [(0, .u (.c (.ro .u64))), (1, .u (.c (.ro .u64))), (2, .u (.c (.ro .u64))), (7, .u (.c (.row 5000000))), (8, .u (.c (.u64))), (9, .u (.c (.int)))], [(5000000, ⟨true, 0, 42, .vec .u64⟩)]⟩, .exit 0⟩),
    (10, ⟨⟨61, [(2, .u (.c (.ro .u64))), (7, .u (.c (.row 11000000))), (8, .u (.c (.u64))), (10, .u (.c (.int)))], [(11000000, ⟨true, 0, 42, .vec .u64⟩)]⟩, .exit 2⟩)]
def zwG (N : Nat) : List (Nat × Sg) := [(159, sg3 kSub), (164, sg3 kAdd)]
theorem zpc (N : Nat) : zaM Try.prog pd.els (zwG N) := ⟨zkw, ⟨zii, trivial⟩⟩
theorem zuw (N : Nat) : SgOK Try.prog pd.els 177 (g177 N) :=
  zaC zaP (zah (zpc N)) Try.func177 (zas (by kernel_rfl)) [(K.ro .u64), (K.ro .u64), (K.ro .u64)] [(K.ro .u64)] _ N zwF 4 fun x => by kernel_rfl
def p83 (N : Nat) (a0 b1 : Fr) : Option (Fr × Unit) :=
  Option.bind (p88 N) fun r0 => Option.bind (p177 N (List.take (Int.toNat ((↑(4 : Nat) : Int) - (0 : Int))) [Fr.a0 a0, Fr.a1 a0, Fr.a2 a0, Fr.a3 a0]) (List.take (Int.toNat ((↑(4 : Nat) : Int) - (0 : Int))) [Fr.a0 b1, Fr.a1 b1, Fr.a2 b1, Fr.a3 b1]) r0.1) fun r1 => Option.bind (p175 N r1.1) fun r2 => some (({ a0 := Fr.a0 r2.1, a1 := Fr.a1 r2.1, a2 := Fr.a2 r2.1, a3 := Fr.a3 r2.1 }, ()))
def g83 (N : Nat) : Sg := sgK [K.fr, K.fr] [K.fr] fun x => p83 N x.1 x.2.1
def zzv : List (Nat × Head) := [
    ]
def zzw (N : Nat) : List (Nat × Sg) := [(88, g88 N), (177, g177 N), (175, g175 N)]
theorem zrV (N : Nat) : zaM Try.prog pd.els (zzw N) := ⟨zl6 N, ⟨zuw N, ⟨zkH N, trivial⟩⟩⟩
theorem zwH (N : Nat) : SgOK Try.prog pd.els 83 (g83 N) :=
  zaC zaP (zah (zrV N)) Try.func83 (zas (by kernel_rfl)) [K.fr, K.fr] [K.fr] _ N zzv 4 fun x => by kernel_rfl
def p85 (N : Nat) (a0 : Fr) : Option (Fr × Unit) :=
  Option.bind (p83 N ({ a0 := (0 : UInt64), a1 := (0 : UInt64), a2 := (0 : UInt64), a3 := (0 : UInt64) }) ({ a0 := Fr.a0 a0, a1 := Fr.a1 a0, a2 := Fr.a2 a0, a3 := Fr.a3 a0 })) fun r0 => some (({ a0 := Fr.a0 r0.1, a1 := Fr.a1 r0.1, a2 := Fr.a2 r0.1, a3 := Fr.a3 r0.1 }, ()))
def g85 (N : Nat) : Sg := sgK [K.fr] [K.fr] fun x => p85 N x.1
def zzx : List (Nat × Head) := [
    ]
def zzy (N : Nat) : List (Nat × Sg) := [(83, g83 N)]
theorem zrW (N : Nat) : zaM Try.prog pd.els (zzy N) := ⟨zwH N, trivial⟩
theorem zwI (N : Nat) : SgOK Try.prog pd.els 85 (g85 N) :=
  zaC zaP (zah (zrW N)) Try.func85 (zas (by kernel_rfl)) [K.fr] [K.fr] _ N zzx 4 fun x => by kernel_rfl
end
section
def p195 (N : Nat) (at0 : Int) (w1 : List Int) : Option (Row × Unit) :=
  let u10 := (0 : Nat) + (1 : Nat) + (1 : Nat)
  let u1 := List.getD w1 u10 (0 : Int)
  let u2 := Fr.zero
  let u3 := List.getD w1 ((0 : Nat) + (1 : Nat)) (0 : Int)
  let u4 := List.getD w1 (0 : Nat) (0 : Int)
  let u5 := eqI at0 (↑((0 : Nat) + (1 : Nat) + (1 : Nat) + (1 : Nat) + (1 : Nat) + (1 : Nat) + (1 : Nat) + (1 : Nat)) : Int)
  let u6 := eqI at0 (↑((0 : Nat) + (1 : Nat) + (1 : Nat) + (1 : Nat) + (1 : Nat) + (1 : Nat) + (1 : Nat)) : Int)
  let u7 := eqI at0 (↑((0 : Nat) + (1 : Nat) + (1 : Nat) + (1 : Nat) + (1 : Nat) + (1 : Nat)) : Int)
  let u8 := eqI at0 (↑((0 : Nat) + (1 : Nat) + (1 : Nat) + (1 : Nat) + (1 : Nat)) : Int)
  let u9 := eqI at0 (↑((0 : Nat) + (1 : Nat) + (1 : Nat) + (1 : Nat)) : Int)
  let u11 := eqI at0 (↑((0 : Nat) + (1 : Nat)) : Int)
  let u12 := eqI at0 (↑(0 : Nat) : Int)
  must (leI (↑(3 : Nat) : Int) (↑w1.length : Int)) (must (leN ((0 : Nat) + (3 : Nat)) w1.length) (Option.bind (p75 N (1 : UInt64)) fun rr0 => cond u12 (must u12 (some ((Row.mk (rr0.1) u2 u2 u2 u2 u2 u2 u2 u4 u3 u1, ())))) (cond u11 (must u11 (some ((Row.mk u2 (rr0.1) u2 u2 u2 u2 u2 u2 u4 u3 u1, ())))) (cond (eqI at0 (↑u10 : Int)) (must (eqI at0 (↑u10 : Int)) (some ((Row.mk u2 u2 (rr0.1) u2 u2 u2 u2 u2 u4 u3 u1, ())))) (cond u9 (must u9 (some ((Row.mk u2 u2 u2 (rr0.1) u2 u2 u2 u2 u4 u3 u1, ())))) (cond u8 (must u8 (some ((Row.mk u2 u2 u2 u2 (rr0.1) u2 u2 u2 u4 u3 u1, ())))) (cond u7 (must u7 (some ((Row.mk u2 u2 u2 u2 u2 (rr0.1) u2 u2 u4 u3 u1, ())))) (cond u6 (must u6 (some ((Row.mk u2 u2 u2 u2 u2 u2 (rr0.1) u2 u4 u3 u1, ())))) (must u5 (must u5 (some ((Row.mk u2 u2 u2 u2 u2 u2 u2 (rr0.1) u4 u3 u1, ())))))))))))))
def g195 (N : Nat) : Sg := sgK [K.int, (K.ro .int)] [(K.st .row)] fun x => p195 N x.1 x.2.1
def zwJ : List (Nat × Head) := [
    ]
def zwK (N : Nat) : List (Nat × Sg) := [(75, g75 N)]
theorem zpd (N : Nat) : zaM Try.prog pd.els (zwK N) := ⟨zoH N, trivial⟩
theorem zux (N : Nat) : SgOK Try.prog pd.els 195 (g195 N) :=
  zaC zaP (zah (zpd N)) Try.func195 (zas (by kernel_rfl)) [K.int, (K.ro .int)] [(K.st .row)] _ N zwJ 4 fun x => by kernel_rfl
def p108 (N : Nat) (s0 : Stp) : Option (List Row × Int × Unit) :=
  let u2 := Fr.zero
  let u1 := some (([Row.mk (s0.q0) (s0.q1) (s0.q2) (s0.q3) (s0.q4) u2 u2 u2 (mxI s0.v0 (-1 : Int)) (mxI s0.v1 (-1 : Int)) (mxI s0.v2 (-1 : Int))], (0 : Int), ()))
  let u3 := [Stp.v0 s0, (-1 : Int), (-1 : Int)]
  let u4 := p195 N (6 : Int) ([Stp.v0 s0, (-1 : Int), Stp.v2 s0])
  let u5 := p195 N (7 : Int) ([Stp.v0 s0, Stp.v1 s0, (-1 : Int)])
  let u6 := hide (eqI s0.kind (1 : Int))
  let u7 := hide (eqI s0.kind (2 : Int))
  let u8 := hide (eqI s0.kind (3 : Int))
  let u9 := hide (eqI s0.kind (4 : Int))
  let u10 := hide (eqI s0.kind (5 : Int))
  let u11 := hide (eqI s0.kind (7 : Int))
  let u12 := some (([], (11 : Int), ()))
  let u13 := some (([], (0 : Int), ()))
  cond u6 (cond u6 u13 (cond u7 u1 (cond u8 (Option.bind (p195 N (5 : Int) u3) fun rr7 => some (([rr7.1], (0 : Int), ()))) (cond u9 (Option.bind u4 fun rr6 => some (([rr6.1], (0 : Int), ()))) (cond u10 (Option.bind u5 fun rr5 => some (([rr5.1, Row.mk u2 u2 u2 u2 u2 u2 u2 u2 s0.v2 (-1 : Int) (-1 : Int)], (0 : Int), ()))) (cond u11 (Option.bind (p195 N (1 : Int) u3) fun rr4 => some (([rr4.1], (0 : Int), ()))) u12)))))) (cond (hide (eqI s0.kind (6 : Int))) u13 (cond u7 u1 (cond u8 (Option.bind (p195 N (5 : Int) u3) fun rr3 => some (([rr3.1], (0 : Int), ()))) (cond u9 (Option.bind u4 fun rr2 => some (([rr2.1], (0 : Int), ()))) (cond u10 (Option.bind u5 fun rr1 => some (([rr1.1, Row.mk u2 u2 u2 u2 u2 u2 u2 u2 s0.v2 (-1 : Int) (-1 : Int)], (0 : Int), ()))) (cond u11 (Option.bind (p195 N (1 : Int) u3) fun rr0 => some (([rr0.1], (0 : Int), ()))) u12))))))
def g108 (N : Nat) : Sg := sgK [(K.st .step)] [(K.ro .row), K.int] fun x => p108 N x.1
def zwL : List (Nat × Head) := [
    ]
def zwM (N : Nat) : List (Nat × Sg) := [(195, g195 N)]
theorem zpe (N : Nat) : zaM Try.prog pd.els (zwM N) := ⟨zux N, trivial⟩
theorem zuy (N : Nat) : SgOK Try.prog pd.els 108 (g108 N) :=
  zaC zaP (zah (zpe N)) Try.func108 (zas (by kernel_rfl)) [(K.st .step)] [(K.ro .row), K.int] _ N zwL 4 fun x => by kernel_rfl
end
section
def p204 (N : Nat) (log0 : Int) : Option (Bool × Unit) :=
  cond (hide (leI (1 : Int) log0)) (some ((hide (leI log0 (6 : Int)), ()))) (some ((false, ())))
def g204 (N : Nat) : Sg := sgK [K.int] [K.bool] fun x => p204 N x.1
def zwN : List (Nat × Head) := [
    ]
def zwO (N : Nat) : List (Nat × Sg) := []
theorem zpf (N : Nat) : zaM Try.prog pd.els (zwO N) := trivial
theorem zpg (N : Nat) : SgOK Try.prog pd.els 204 (g204 N) :=
  zaC zaP (zah (zpf N)) Try.func204 (zas (by kernel_rfl)) [K.int] [K.bool] _ N zwN 4 fun x => by kernel_rfl
def p136 (N : Nat) (log0 cell1 : Int) : Option (Fr × Int × Unit) :=
  let u3 := UInt64.toNat (hide (u64I log0))
  let u1 := hide (shlI (1 : Int) u3)
  let u2 := some ((Fr.mk (0 : UInt64) (0 : UInt64) (0 : UInt64) (0 : UInt64), (1 : Int), ()))
  Option.bind (p204 N log0) fun r0 => cond (hide !r0.1) u2 (cond (hide (ltI cell1 (0 : Int))) u2 (cond (hide (leI (hide (shlI (3 : Int) u3)) cell1)) u2 (Option.bind (p77 N log0) fun r1 => Option.bind (p75 N (7 : UInt64)) fun r2 => must (!eqI u1 (0 : Int)) (Option.bind (p72 N (Fr.mk r2.1.a0 r2.1.a1 r2.1.a2 r2.1.a3) ([hide (u64I (hide (wr (Int.tdiv cell1 u1))))])) fun r3 => must (!eqI u1 (0 : Int)) (Option.bind (p72 N (Fr.mk r1.1.a0 r1.1.a1 r1.1.a2 r1.1.a3) ([hide (u64I (hide (Int.tmod cell1 u1)))])) fun r4 => Option.bind (p76 N (Fr.mk r3.1.a0 r3.1.a1 r3.1.a2 r3.1.a3) (Fr.mk r4.1.a0 r4.1.a1 r4.1.a2 r4.1.a3)) fun r5 => some ((Fr.mk r5.1.a0 r5.1.a1 r5.1.a2 r5.1.a3, (0 : Int), ())))))))
def g136 (N : Nat) : Sg := sgK [K.int, K.int] [K.fr, K.int] fun x => p136 N x.1 x.2.1
def zwP : List (Nat × Head) := [
    ]
def zwQ (N : Nat) : List (Nat × Sg) := [(204, g204 N), (77, g77 N), (75, g75 N), (72, g72 N), (76, g76 N)]
theorem zph (N : Nat) : zaM Try.prog pd.els (zwQ N) := ⟨zpg N, ⟨zwn N, ⟨zoH N, ⟨zs8 N, ⟨zwo N, trivial⟩⟩⟩⟩⟩
theorem zuz (N : Nat) : SgOK Try.prog pd.els 136 (g136 N) :=
  zaC zaP (zah (zph N)) Try.func136 (zas (by kernel_rfl)) [K.int, K.int] [K.fr, K.int] _ N zwP 4 fun x => by kernel_rfl
end
section
def zrow : Row := Row.mk Fr.zero Fr.zero Fr.zero Fr.zero Fr.zero Fr.zero Fr.zero Fr.zero (0 : Int) (0 : Int) (0 : Int)
def zbF (x y : Row) : Bool := Fr.a0 x.q0 == Fr.a0 y.q0 && (Fr.a1 x.q0 == Fr.a1 y.q0 && (Fr.a2 x.q0 == Fr.a2 y.q0 && (Fr.a3 x.q0 == Fr.a3 y.q0 && true))) && (Fr.a0 x.q1 == Fr.a0 y.q1 && (Fr.a1 x.q1 == Fr.a1 y.q1 && (Fr.a2 x.q1 == Fr.a2 y.q1 && (Fr.a3 x.q1 == Fr.a3 y.q1 && true))) && (Fr.a0 x.q2 == Fr.a0 y.q2 && (Fr.a1 x.q2 == Fr.a1 y.q2 && (Fr.a2 x.q2 == Fr.a2 y.q2 && (Fr.a3 x.q2 == Fr.a3 y.q2 && true))) && (Fr.a0 x.q3 == Fr.a0 y.q3 && (Fr.a1 x.q3 == Fr.a1 y.q3 && (Fr.a2 x.q3 == Fr.a2 y.q3 && (Fr.a3 x.q3 == Fr.a3 y.q3 && true))) && (Fr.a0 x.q4 == Fr.a0 y.q4 && (Fr.a1 x.q4 == Fr.a1 y.q4 && (Fr.a2 x.q4 == Fr.a2 y.q4 && (Fr.a3 x.q4 == Fr.a3 y.q4 && true))) && (Fr.a0 x.q5 == Fr.a0 y.q5 && (Fr.a1 x.q5 == Fr.a1 y.q5 && (Fr.a2 x.q5 == Fr.a2 y.q5 && (Fr.a3 x.q5 == Fr.a3 y.q5 && true))) && (Fr.a0 x.q6 == Fr.a0 y.q6 && (Fr.a1 x.q6 == Fr.a1 y.q6 && (Fr.a2 x.q6 == Fr.a2 y.q6 && (Fr.a3 x.q6 == Fr.a3 y.q6 && true))) && (Fr.a0 x.q7 == Fr.a0 y.q7 && (Fr.a1 x.q7 == Fr.a1 y.q7 && (Fr.a2 x.q7 == Fr.a2 y.q7 && (Fr.a3 x.q7 == Fr.a3 y.q7 && true))) && true))))))) && (eqI x.w0 y.w0 && (eqI x.w1 y.w1 && (eqI x.w2 y.w2 && true)) && true)
end
end Go.Proofs.Ytgimohchocjgcaa.V
