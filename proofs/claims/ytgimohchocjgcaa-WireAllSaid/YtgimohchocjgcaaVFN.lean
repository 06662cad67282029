import Derived.Test.YtgimohchocjgcaaVFM
import Derived.Test.YtgimohchocjgcaaVUM
import Derived.KernelRfl
set_option linter.unusedVariables false
set_option linter.unusedSimpArgs false
namespace Go.Proofs.Ytgimohchocjgcaa.V
def q75 (N : Nat) (n0 : UInt64) : Option (Fr × Unit) :=
  some (({ a0 := n0, a1 := (0 : UInt64), a2 := (0 : UInt64), a3 := (0 : UInt64) }, ()))
theorem p75_t : p75 = q75 := by
  (repeat (apply funext; intro _))
  simp only [p75, q75, ]
def q169 (N : Nat) : Option (Fr × Unit) :=
  some (({ a0 := (18446744069414584321 : UInt64), a1 := (6034159408538082302 : UInt64), a2 := (3691218898639771653 : UInt64), a3 := (8353516859464449352 : UInt64) }, ()))
theorem p169_t : p169 = q169 := by
  (repeat (apply funext; intro _))
  simp only [p169, q169, ]
def q213 (N : Nat) : Option (Fr × Unit) :=
  some (({ a0 := (14526898881837571181 : UInt64), a1 := (3129137299524312099 : UInt64), a2 := (419701826671360399 : UInt64), a3 := (524908885293268753 : UInt64) }, ()))
theorem p213_t : p213 = q213 := by
  (repeat (apply funext; intro _))
  simp only [p213, q213, ]
def c174_5 (N : Nat) (A_5 : UInt64 → UInt64 → Int → (List UInt64) → (List UInt64) → (List UInt64) → (List UInt64) → Option (Fr × Unit)) (over1 : UInt64) (borrow7 : UInt64) (t10 : Int) (ob0 : List UInt64) (ob1 : List UInt64) (ob2 : List UInt64) (ob3 : List UInt64) : Option (Fr × Unit) :=
  cond ((ltI t10 (4 : Int))) (must (leI (0 : Int) t10 && ltI t10 (↑(4 : Nat) : Int)) (must (leI (0 : Int) t10 && ltI t10 (↑(4 : Nat) : Int)) (Option.bind (kSub (List.getD ob0 (Int.toNat t10) (0 : UInt64)) (List.getD ob2 (Int.toNat t10) (0 : UInt64)) borrow7) fun r2 => must (leI (0 : Int) t10 && ltI t10 (↑(4 : Nat) : Int)) (A_5 over1 (Prod.snd r2) ((wr (t10 + (1 : Int)))) ob0 ob1 ob2 (setL ob3 (Int.toNat t10) (Prod.fst r2)))))) (cond ((ltN (UInt64.toNat over1) (UInt64.toNat borrow7))) (must (Nat.beq (List.length ob0) (4 : Nat)) (Option.bind (Fr.of? ob0) fun r1 => some ((r1, ())))) (must (Nat.beq (List.length ob3) (4 : Nat)) (Option.bind (Fr.of? ob3) fun r0 => some ((r0, ())))))
theorem b174_5_t : b174_5 = c174_5 := by
  (repeat (apply funext; intro _))
  simp only [b174_5, c174_5, hide_eq]
def m174_5 (N : Nat) (n : Nat) (over1 : UInt64) (borrow7 : UInt64) (t10 : Int) (ob0 : List UInt64) (ob1 : List UInt64) (ob2 : List UInt64) (ob3 : List UInt64) : Option (Fr × Unit) :=
  loopN (fun A x => c174_5 N (fun over1 borrow7 t10 ob0 ob1 ob2 ob3 => A ((over1, ((), ((), ((), ((), (borrow7, (t10, ()))))))), (ob0, (ob1, (ob2, (ob3, ())))))) x.1.1 x.1.2.2.2.2.2.1 x.1.2.2.2.2.2.2.1 x.2.1 x.2.2.1 x.2.2.2.1 x.2.2.2.2.1) n ((over1, ((), ((), ((), ((), (borrow7, (t10, ()))))))), (ob0, (ob1, (ob2, (ob3, ())))))
theorem l174_5_t : l174_5 = m174_5 := by
  (repeat (apply funext; intro _))
  simp only [l174_5, m174_5, b174_5_t]
theorem m174_5_succ (N : Nat) (n : Nat) (over1 : UInt64) (borrow7 : UInt64) (t10 : Int) (ob0 : List UInt64) (ob1 : List UInt64) (ob2 : List UInt64) (ob3 : List UInt64) : m174_5 N (n + 1) over1 borrow7 t10 ob0 ob1 ob2 ob3 = c174_5 N (m174_5 N n) over1 borrow7 t10 ob0 ob1 ob2 ob3 := rfl
def q174 (N : Nat) (a0 : Fr) (over1 : UInt64) : Option (Fr × Unit) :=
  Option.bind (q169 N) fun r0 => m174_5 N N over1 ((0 : UInt64)) ((0 : Int)) ([Fr.a0 a0, Fr.a1 a0, Fr.a2 a0, Fr.a3 a0]) ([(0 : UInt64), (0 : UInt64), (0 : UInt64), (0 : UInt64)]) ([Fr.a0 (Prod.fst r0), Fr.a1 (Prod.fst r0), Fr.a2 (Prod.fst r0), Fr.a3 (Prod.fst r0)]) ([(0 : UInt64), (0 : UInt64), (0 : UInt64), (0 : UInt64)])
theorem p174_t : p174 = q174 := by
  (repeat (apply funext; intro _))
  simp only [p174, q174, l174_5_t, p169_t]
def c172_22 (N : Nat) (A_4 : Int → (List UInt64) → (List UInt64) → (List UInt64) → (List UInt64) → (List UInt64) → Option (Fr × Unit)) (A_22 : UInt64 → UInt64 → UInt64 → UInt64 → Int → Int → (List UInt64) → (List UInt64) → (List UInt64) → (List UInt64) → (List UInt64) → Option (Fr × Unit)) (c8 : UInt64) (top13 : UInt64) (more14 : UInt64) (x15 : UInt64) (j16 : Int) (t18 : Int) (ob0 : List UInt64) (ob1 : List UInt64) (ob2 : List UInt64) (ob3 : List UInt64) (ob4 : List UInt64) : Option (Fr × Unit) :=
  cond ((ltI j16 (4 : Int))) (must (leI (0 : Int) j16 && ltI j16 (↑(4 : Nat) : Int)) (Option.bind (q163 N x15 (List.getD ob3 (Int.toNat j16) (0 : UInt64))) fun r1 => must (leI (0 : Int) j16 && ltI j16 (↑(5 : Nat) : Int)) (Option.bind (kAdd (Prod.fst (Prod.snd r1)) (List.getD ob4 (Int.toNat j16) (0 : UInt64)) ((0 : UInt64))) fun r2 => Option.bind (kAdd (Prod.fst r2) c8 ((0 : UInt64))) fun r3 => must (leI (0 : Int) ((wr (j16 - (1 : Int)))) && ltI ((wr (j16 - (1 : Int)))) (↑(5 : Nat) : Int)) (A_22 (((Prod.fst r1 + Prod.snd r2) + Prod.snd r3)) top13 more14 x15 ((wr (j16 + (1 : Int)))) t18 ob0 ob1 ob2 ob3 (setL ob4 (Int.toNat ((wr (j16 - (1 : Int))))) (Prod.fst r3)))))) (Option.bind (kAdd top13 c8 ((0 : UInt64))) fun r0 => A_4 ((wr (t18 + (1 : Int)))) ob0 ob1 ob2 ob3 (setL (setL ob4 (3 : Nat) (Prod.fst r0)) (4 : Nat) ((more14 + Prod.snd r0))))
theorem b172_22_t : b172_22 = c172_22 := by
  (repeat (apply funext; intro _))
  simp only [b172_22, c172_22, hide_eq, p163_t]
def m172_22 (N : Nat) (A_4 : Int → (List UInt64) → (List UInt64) → (List UInt64) → (List UInt64) → (List UInt64) → Option (Fr × Unit)) (n : Nat) (c8 : UInt64) (top13 : UInt64) (more14 : UInt64) (x15 : UInt64) (j16 : Int) (t18 : Int) (ob0 : List UInt64) (ob1 : List UInt64) (ob2 : List UInt64) (ob3 : List UInt64) (ob4 : List UInt64) : Option (Fr × Unit) :=
  loopN (fun A x => c172_22 N A_4 (fun c8 top13 more14 x15 j16 t18 ob0 ob1 ob2 ob3 ob4 => A (((), ((), ((), ((), ((), (c8, (top13, (more14, (x15, (j16, (t18, ()))))))))))), (ob0, (ob1, (ob2, (ob3, (ob4, ()))))))) x.1.2.2.2.2.2.1 x.1.2.2.2.2.2.2.1 x.1.2.2.2.2.2.2.2.1 x.1.2.2.2.2.2.2.2.2.1 x.1.2.2.2.2.2.2.2.2.2.1 x.1.2.2.2.2.2.2.2.2.2.2.1 x.2.1 x.2.2.1 x.2.2.2.1 x.2.2.2.2.1 x.2.2.2.2.2.1) n (((), ((), ((), ((), ((), (c8, (top13, (more14, (x15, (j16, (t18, ()))))))))))), (ob0, (ob1, (ob2, (ob3, (ob4, ()))))))
theorem l172_22_t : l172_22 = m172_22 := by
  (repeat (apply funext; intro _))
  simp only [l172_22, m172_22, b172_22_t]
theorem m172_22_succ (N : Nat) (A_4 : Int → (List UInt64) → (List UInt64) → (List UInt64) → (List UInt64) → (List UInt64) → Option (Fr × Unit)) (n : Nat) (c8 : UInt64) (top13 : UInt64) (more14 : UInt64) (x15 : UInt64) (j16 : Int) (t18 : Int) (ob0 : List UInt64) (ob1 : List UInt64) (ob2 : List UInt64) (ob3 : List UInt64) (ob4 : List UInt64) : m172_22 N A_4 (n + 1) c8 top13 more14 x15 j16 t18 ob0 ob1 ob2 ob3 ob4 = c172_22 N A_4 (m172_22 N A_4 n) c8 top13 more14 x15 j16 t18 ob0 ob1 ob2 ob3 ob4 := rfl
def c172_8 (N : Nat) (A_4 : Int → (List UInt64) → (List UInt64) → (List UInt64) → (List UInt64) → (List UInt64) → Option (Fr × Unit)) (A_8 : Int → UInt64 → Int → Int → (List UInt64) → (List UInt64) → (List UInt64) → (List UInt64) → (List UInt64) → Option (Fr × Unit)) (i7 : Int) (c8 : UInt64) (t18 : Int) (t21 : Int) (ob0 : List UInt64) (ob1 : List UInt64) (ob2 : List UInt64) (ob3 : List UInt64) (ob4 : List UInt64) : Option (Fr × Unit) :=
  cond ((ltI t21 (4 : Int))) (must (leI (0 : Int) t21 && ltI t21 (↑(4 : Nat) : Int)) (must (leI (0 : Int) i7 && ltI i7 (↑(4 : Nat) : Int)) (Option.bind (q163 N (List.getD ob0 (Int.toNat t21) (0 : UInt64)) (List.getD ob1 (Int.toNat i7) (0 : UInt64))) fun r3 => must (leI (0 : Int) t21 && ltI t21 (↑(5 : Nat) : Int)) (Option.bind (kAdd (Prod.fst (Prod.snd r3)) (List.getD ob4 (Int.toNat t21) (0 : UInt64)) ((0 : UInt64))) fun r4 => Option.bind (kAdd (Prod.fst r4) c8 ((0 : UInt64))) fun r5 => must (leI (0 : Int) t21 && ltI t21 (↑(5 : Nat) : Int)) (A_8 i7 (((Prod.fst r3 + Prod.snd r4) + Prod.snd r5)) t18 ((wr (t21 + (1 : Int)))) ob0 ob1 ob2 ob3 (setL ob4 (Int.toNat t21) (Prod.fst r5))))))) (Option.bind (kAdd (List.getD ob4 (4 : Nat) (0 : UInt64)) c8 ((0 : UInt64))) fun r0 => Option.bind (q163 N ((List.getD ob4 (0 : Nat) (0 : UInt64) * (18446744069414584319 : UInt64))) (List.getD ob3 (0 : Nat) (0 : UInt64))) fun r1 => Option.bind (kAdd (Prod.fst (Prod.snd r1)) (List.getD ob4 (0 : Nat) (0 : UInt64)) ((0 : UInt64))) fun r2 => m172_22 N A_4 N ((Prod.fst r1 + Prod.snd r2)) (Prod.fst r0) (Prod.snd r0) ((List.getD ob4 (0 : Nat) (0 : UInt64) * (18446744069414584319 : UInt64))) ((1 : Int)) t18 ob0 ob1 ob2 ob3 ob4)
theorem b172_8_t : b172_8 = c172_8 := by
  (repeat (apply funext; intro _))
  simp only [b172_8, c172_8, hide_eq, l172_22_t, p163_t]
def m172_8 (N : Nat) (A_4 : Int → (List UInt64) → (List UInt64) → (List UInt64) → (List UInt64) → (List UInt64) → Option (Fr × Unit)) (n : Nat) (i7 : Int) (c8 : UInt64) (t18 : Int) (t21 : Int) (ob0 : List UInt64) (ob1 : List UInt64) (ob2 : List UInt64) (ob3 : List UInt64) (ob4 : List UInt64) : Option (Fr × Unit) :=
  loopN (fun A x => c172_8 N A_4 (fun i7 c8 t18 t21 ob0 ob1 ob2 ob3 ob4 => A (((), ((), ((), ((), ((), (i7, (c8, (t18, (t21, ()))))))))), (ob0, (ob1, (ob2, (ob3, (ob4, ()))))))) x.1.2.2.2.2.2.1 x.1.2.2.2.2.2.2.1 x.1.2.2.2.2.2.2.2.1 x.1.2.2.2.2.2.2.2.2.1 x.2.1 x.2.2.1 x.2.2.2.1 x.2.2.2.2.1 x.2.2.2.2.2.1) n (((), ((), ((), ((), ((), (i7, (c8, (t18, (t21, ()))))))))), (ob0, (ob1, (ob2, (ob3, (ob4, ()))))))
theorem l172_8_t : l172_8 = m172_8 := by
  (repeat (apply funext; intro _))
  simp only [l172_8, m172_8, b172_8_t]
theorem m172_8_succ (N : Nat) (A_4 : Int → (List UInt64) → (List UInt64) → (List UInt64) → (List UInt64) → (List UInt64) → Option (Fr × Unit)) (n : Nat) (i7 : Int) (c8 : UInt64) (t18 : Int) (t21 : Int) (ob0 : List UInt64) (ob1 : List UInt64) (ob2 : List UInt64) (ob3 : List UInt64) (ob4 : List UInt64) : m172_8 N A_4 (n + 1) i7 c8 t18 t21 ob0 ob1 ob2 ob3 ob4 = c172_8 N A_4 (m172_8 N A_4 n) i7 c8 t18 t21 ob0 ob1 ob2 ob3 ob4 := rfl
def c172_4 (N : Nat) (A_4 : Int → (List UInt64) → (List UInt64) → (List UInt64) → (List UInt64) → (List UInt64) → Option (Fr × Unit)) (t18 : Int) (ob0 : List UInt64) (ob1 : List UInt64) (ob2 : List UInt64) (ob3 : List UInt64) (ob4 : List UInt64) : Option (Fr × Unit) :=
  cond ((ltI t18 (4 : Int))) (m172_8 N A_4 N t18 ((0 : UInt64)) t18 ((0 : Int)) ob0 ob1 ob2 ob3 ob4) (must (leN (Int.toNat (0 : Int) + (4 : Nat)) (List.length ob4)) (Option.bind (Option.bind (Option.bind (Fr.of? (List.take (4 : Nat) ob4)) fun r0 => some ((r0, List.getD ob4 (4 : Nat) (0 : UInt64), ()))) fun r1 => q174 N (Prod.fst r1) (Prod.fst (Prod.snd r1))) fun r2 => some (({ a0 := Fr.a0 (Prod.fst r2), a1 := Fr.a1 (Prod.fst r2), a2 := Fr.a2 (Prod.fst r2), a3 := Fr.a3 (Prod.fst r2) }, ()))))
theorem b172_4_t : b172_4 = c172_4 := by
  (repeat (apply funext; intro _))
  simp only [b172_4, c172_4, hide_eq, l172_8_t, p174_t]
def m172_4 (N : Nat) (n : Nat) (t18 : Int) (ob0 : List UInt64) (ob1 : List UInt64) (ob2 : List UInt64) (ob3 : List UInt64) (ob4 : List UInt64) : Option (Fr × Unit) :=
  loopN (fun A x => c172_4 N (fun t18 ob0 ob1 ob2 ob3 ob4 => A (((), ((), ((), ((), ((), (t18, ())))))), (ob0, (ob1, (ob2, (ob3, (ob4, ()))))))) x.1.2.2.2.2.2.1 x.2.1 x.2.2.1 x.2.2.2.1 x.2.2.2.2.1 x.2.2.2.2.2.1) n (((), ((), ((), ((), ((), (t18, ())))))), (ob0, (ob1, (ob2, (ob3, (ob4, ()))))))
theorem l172_4_t : l172_4 = m172_4 := by
  (repeat (apply funext; intro _))
  simp only [l172_4, m172_4, b172_4_t]
theorem m172_4_succ (N : Nat) (n : Nat) (t18 : Int) (ob0 : List UInt64) (ob1 : List UInt64) (ob2 : List UInt64) (ob3 : List UInt64) (ob4 : List UInt64) : m172_4 N (n + 1) t18 ob0 ob1 ob2 ob3 ob4 = c172_4 N (m172_4 N n) t18 ob0 ob1 ob2 ob3 ob4 := rfl
def q172 (N : Nat) (a0 : Fr) (b1 : Fr) : Option (Fr × Unit) :=
  Option.bind (q169 N) fun r0 => m172_4 N N ((0 : Int)) ([Fr.a0 a0, Fr.a1 a0, Fr.a2 a0, Fr.a3 a0]) ([Fr.a0 b1, Fr.a1 b1, Fr.a2 b1, Fr.a3 b1]) ([(0 : UInt64), (0 : UInt64), (0 : UInt64), (0 : UInt64)]) ([Fr.a0 (Prod.fst r0), Fr.a1 (Prod.fst r0), Fr.a2 (Prod.fst r0), Fr.a3 (Prod.fst r0)]) ([(0 : UInt64), (0 : UInt64), (0 : UInt64), (0 : UInt64), (0 : UInt64)])
theorem p172_t : p172 = q172 := by
  (repeat (apply funext; intro _))
  simp only [p172, q172, l172_4_t, p169_t]
def q170 (N : Nat) (a0 : Fr) : Option (Fr × Unit) :=
  Option.bind (q213 N) fun r0 => Option.bind (q172 N ({ a0 := Fr.a0 a0, a1 := Fr.a1 a0, a2 := Fr.a2 a0, a3 := Fr.a3 a0 }) ({ a0 := Fr.a0 (Prod.fst r0), a1 := Fr.a1 (Prod.fst r0), a2 := Fr.a2 (Prod.fst r0), a3 := Fr.a3 (Prod.fst r0) })) fun r1 => some (({ a0 := Fr.a0 (Prod.fst r1), a1 := Fr.a1 (Prod.fst r1), a2 := Fr.a2 (Prod.fst r1), a3 := Fr.a3 (Prod.fst r1) }, ()))
theorem p170_t : p170 = q170 := by
  (repeat (apply funext; intro _))
  simp only [p170, q170, p172_t, p213_t]
def q171 (N : Nat) (a0 : Fr) : Option (Fr × Unit) :=
  Option.bind (q172 N ({ a0 := Fr.a0 a0, a1 := Fr.a1 a0, a2 := Fr.a2 a0, a3 := Fr.a3 a0 }) ({ a0 := (1 : UInt64), a1 := (0 : UInt64), a2 := (0 : UInt64), a3 := (0 : UInt64) })) fun r0 => some (({ a0 := Fr.a0 (Prod.fst r0), a1 := Fr.a1 (Prod.fst r0), a2 := Fr.a2 (Prod.fst r0), a3 := Fr.a3 (Prod.fst r0) }, ()))
theorem p171_t : p171 = q171 := by
  (repeat (apply funext; intro _))
  simp only [p171, q171, p172_t]
def c72_1000 (N : Nat) (A_1000 : (List UInt64) → Int → (List UInt64) → (List UInt64) → (List UInt64) → Option (Fr × Unit)) (e1 : List UInt64) (i7 : Int) (ob0 : List UInt64) (ob1 : List UInt64) (ob2 : List UInt64) : Option (Fr × Unit) :=
  cond ((ltI ((wr (i7 - (1 : Int)))) (0 : Int))) (Option.bind (Option.bind (Option.bind (Fr.of? ob2) fun r9 => some ((r9, ()))) fun r10 => q171 N (Prod.fst r10)) fun r11 => some (({ a0 := Fr.a0 (Prod.fst r11), a1 := Fr.a1 (Prod.fst r11), a2 := Fr.a2 (Prod.fst r11), a3 := Fr.a3 (Prod.fst r11) }, ()))) (Option.bind (Option.bind (Option.bind (Fr.of? ob2) fun r0 => Option.bind (Option.bind (Fr.of? ob2) fun r1 => some ((r1, ()))) fun r2 => some ((r0, r2))) fun r3 => q172 N (Prod.fst r3) (Prod.fst (Prod.snd r3))) fun r4 => must (leI (0 : Int) ((wr (Int.tdiv ((wr (i7 - (1 : Int)))) (64 : Int)))) && ltI ((wr (Int.tdiv ((wr (i7 - (1 : Int)))) (64 : Int)))) (↑(List.length e1) : Int)) (cond ((((shr64 (List.getD e1 (Int.toNat ((wr (Int.tdiv ((wr (i7 - (1 : Int)))) (64 : Int))))) (0 : UInt64)) (UInt64.toNat ((u64I ((Int.tmod ((wr (i7 - (1 : Int)))) (64 : Int))))))) &&& (1 : UInt64)) == (1 : UInt64))) (Option.bind (Option.bind (Option.bind (Option.bind (Fr.of? ob1) fun r5 => some ((r5, ()))) fun r6 => some (({ a0 := Fr.a0 (Prod.fst r4), a1 := Fr.a1 (Prod.fst r4), a2 := Fr.a2 (Prod.fst r4), a3 := Fr.a3 (Prod.fst r4) }, r6))) fun r7 => q172 N (Prod.fst r7) (Prod.fst (Prod.snd r7))) fun r8 => A_1000 e1 ((wr (i7 - (1 : Int)))) ob0 ob1 ([Fr.a0 (Prod.fst r8), Fr.a1 (Prod.fst r8), Fr.a2 (Prod.fst r8), Fr.a3 (Prod.fst r8)])) (A_1000 e1 ((wr (i7 - (1 : Int)))) ob0 ob1 ([Fr.a0 (Prod.fst r4), Fr.a1 (Prod.fst r4), Fr.a2 (Prod.fst r4), Fr.a3 (Prod.fst r4)]))))
theorem b72_1000_t : b72_1000 = c72_1000 := by
  (repeat (apply funext; intro _))
  simp only [b72_1000, c72_1000, hide_eq, p171_t, p172_t]
def m72_1000 (N : Nat) (n : Nat) (e1 : List UInt64) (i7 : Int) (ob0 : List UInt64) (ob1 : List UInt64) (ob2 : List UInt64) : Option (Fr × Unit) :=
  loopN (fun A x => c72_1000 N (fun e1 i7 ob0 ob1 ob2 => A ((e1, ((), ((), ((), (i7, ()))))), (ob0, (ob1, (ob2, ()))))) x.1.1 x.1.2.2.2.2.1 x.2.1 x.2.2.1 x.2.2.2.1) n ((e1, ((), ((), ((), (i7, ()))))), (ob0, (ob1, (ob2, ()))))
theorem l72_1000_t : l72_1000 = m72_1000 := by
  (repeat (apply funext; intro _))
  simp only [l72_1000, m72_1000, b72_1000_t]
theorem m72_1000_succ (N : Nat) (n : Nat) (e1 : List UInt64) (i7 : Int) (ob0 : List UInt64) (ob1 : List UInt64) (ob2 : List UInt64) : m72_1000 N (n + 1) e1 i7 ob0 ob1 ob2 = c72_1000 N (m72_1000 N n) e1 i7 ob0 ob1 ob2 := rfl
def q72 (N : Nat) (a0 : Fr) (e1 : List UInt64) : Option (Fr × Unit) :=
  Option.bind (q170 N ({ a0 := Fr.a0 a0, a1 := Fr.a1 a0, a2 := Fr.a2 a0, a3 := Fr.a3 a0 })) fun r0 => Option.bind (q170 N ({ a0 := (1 : UInt64), a1 := (0 : UInt64), a2 := (0 : UInt64), a3 := (0 : UInt64) })) fun r1 => m72_1000 N N e1 ((wr ((64 : Int) * (↑(List.length e1) : Int)))) ([(0 : UInt64), (0 : UInt64), (0 : UInt64), (0 : UInt64)]) ([Fr.a0 (Prod.fst r0), Fr.a1 (Prod.fst r0), Fr.a2 (Prod.fst r0), Fr.a3 (Prod.fst r0)]) ([Fr.a0 (Prod.fst r1), Fr.a1 (Prod.fst r1), Fr.a2 (Prod.fst r1), Fr.a3 (Prod.fst r1)])
theorem p72_t : p72 = q72 := by
  (repeat (apply funext; intro _))
  simp only [p72, q72, hide_eq, l72_1000_t, p170_t]
def c77_9 (N : Nat) (A_6 : Int → Int → (List UInt64) → (List UInt64) → Option (Fr × Int × Unit)) (A_9 : UInt64 → Int → Int → Int → (List UInt64) → (List UInt64) → Option (Fr × Int × Unit)) (over5 : UInt64) (i6 : Int) (t19 : Int) (t20 : Int) (ob0 : List UInt64) (ob1 : List UInt64) : Option (Fr × Int × Unit) :=
  cond ((leI (0 : Int) i6)) (must (leI (0 : Int) i6 && ltI i6 (↑(4 : Nat) : Int)) (must (leI (0 : Int) i6 && ltI i6 (↑(4 : Nat) : Int)) (must (leI (0 : Int) i6 && ltI i6 (↑(4 : Nat) : Int)) (A_9 ((shl64 (List.getD ob1 (Int.toNat i6) (0 : UInt64)) (UInt64.toNat (63 : UInt64)))) ((wr (i6 - (1 : Int)))) t19 t20 ob0 (setL ob1 (Int.toNat i6) (((shr64 (List.getD ob1 (Int.toNat i6) (0 : UInt64)) (UInt64.toNat (1 : UInt64))) ||| over5))))))) (A_6 t19 ((wr (t20 + (1 : Int)))) ob0 ob1)
theorem b77_9_t : b77_9 = c77_9 := by
  (repeat (apply funext; intro _))
  simp only [b77_9, c77_9, hide_eq]
def m77_9 (N : Nat) (A_6 : Int → Int → (List UInt64) → (List UInt64) → Option (Fr × Int × Unit)) (n : Nat) (over5 : UInt64) (i6 : Int) (t19 : Int) (t20 : Int) (ob0 : List UInt64) (ob1 : List UInt64) : Option (Fr × Int × Unit) :=
  loopN (fun A x => c77_9 N A_6 (fun over5 i6 t19 t20 ob0 ob1 => A (((), ((), (over5, (i6, (t19, (t20, ())))))), (ob0, (ob1, ())))) x.1.2.2.1 x.1.2.2.2.1 x.1.2.2.2.2.1 x.1.2.2.2.2.2.1 x.2.1 x.2.2.1) n (((), ((), (over5, (i6, (t19, (t20, ())))))), (ob0, (ob1, ())))
theorem l77_9_t : l77_9 = m77_9 := by
  (repeat (apply funext; intro _))
  simp only [l77_9, m77_9, b77_9_t]
def c77_6 (N : Nat) (A_6 : Int → Int → (List UInt64) → (List UInt64) → Option (Fr × Int × Unit)) (t19 : Int) (t20 : Int) (ob0 : List UInt64) (ob1 : List UInt64) : Option (Fr × Int × Unit) :=
  cond ((ltI t20 t19)) (m77_9 N A_6 N ((0 : UInt64)) ((3 : Int)) t19 t20 ob0 ob1) (Option.bind (q75 N ((7 : UInt64))) fun r0 => Option.bind (q72 N ({ a0 := Fr.a0 (Prod.fst r0), a1 := Fr.a1 (Prod.fst r0), a2 := Fr.a2 (Prod.fst r0), a3 := Fr.a3 (Prod.fst r0) }) (List.take (Int.toNat ((↑(4 : Nat) : Int) - (0 : Int))) ob1)) fun r1 => some (({ a0 := Fr.a0 (Prod.fst r1), a1 := Fr.a1 (Prod.fst r1), a2 := Fr.a2 (Prod.fst r1), a3 := Fr.a3 (Prod.fst r1) }, (0 : Int), ())))
theorem b77_6_t : b77_6 = c77_6 := by
  (repeat (apply funext; intro _))
  simp only [b77_6, c77_6, hide_eq, l77_9_t, p72_t, p75_t]
def m77_6 (N : Nat) (n : Nat) (t19 : Int) (t20 : Int) (ob0 : List UInt64) (ob1 : List UInt64) : Option (Fr × Int × Unit) :=
  loopN (fun A x => c77_6 N (fun t19 t20 ob0 ob1 => A (((), ((), (t19, (t20, ())))), (ob0, (ob1, ())))) x.1.2.2.1 x.1.2.2.2.1 x.2.1 x.2.2.1) n (((), ((), (t19, (t20, ())))), (ob0, (ob1, ())))
theorem l77_6_t : l77_6 = m77_6 := by
  (repeat (apply funext; intro _))
  simp only [l77_6, m77_6, b77_6_t]
theorem m77_6_succ (N : Nat) (n : Nat) (t19 : Int) (t20 : Int) (ob0 : List UInt64) (ob1 : List UInt64) : m77_6 N (n + 1) t19 t20 ob0 ob1 = c77_6 N (m77_6 N n) t19 t20 ob0 ob1 := rfl
def q77 (N : Nat) (log0 : Int) : Option (Fr × Int × Unit) :=
  cond ((ltI log0 (0 : Int))) (some (({ a0 := (0 : UInt64), a1 := (0 : UInt64), a2 := (0 : UInt64), a3 := (0 : UInt64) }, (1 : Int), ()))) (cond ((ltI (32 : Int) log0)) (some (({ a0 := (0 : UInt64), a1 := (0 : UInt64), a2 := (0 : UInt64), a3 := (0 : UInt64) }, (1 : Int), ()))) (Option.bind (q169 N) fun r0 => m77_6 N N log0 ((0 : Int)) ([(0 : UInt64), (0 : UInt64), (0 : UInt64), (0 : UInt64)]) (setL [Fr.a0 (Prod.fst r0), Fr.a1 (Prod.fst r0), Fr.a2 (Prod.fst r0), Fr.a3 (Prod.fst r0)] (0 : Nat) ((Fr.a0 (Prod.fst r0) - (1 : UInt64))))))
theorem p77_t : p77 = q77 := by
  (repeat (apply funext; intro _))
  simp only [p77, q77, hide_eq, l77_6_t, p169_t]
def q76 (N : Nat) (a0 : Fr) (b1 : Fr) : Option (Fr × Unit) :=
  Option.bind (q172 N ({ a0 := Fr.a0 a0, a1 := Fr.a1 a0, a2 := Fr.a2 a0, a3 := Fr.a3 a0 }) ({ a0 := Fr.a0 b1, a1 := Fr.a1 b1, a2 := Fr.a2 b1, a3 := Fr.a3 b1 })) fun r0 => Option.bind (q170 N ({ a0 := Fr.a0 (Prod.fst r0), a1 := Fr.a1 (Prod.fst r0), a2 := Fr.a2 (Prod.fst r0), a3 := Fr.a3 (Prod.fst r0) })) fun r1 => some (({ a0 := Fr.a0 (Prod.fst r1), a1 := Fr.a1 (Prod.fst r1), a2 := Fr.a2 (Prod.fst r1), a3 := Fr.a3 (Prod.fst r1) }, ()))
theorem p76_t : p76 = q76 := by
  (repeat (apply funext; intro _))
  simp only [p76, q76, p170_t, p172_t]
def q79 (N : Nat) (a0 : Fr) : Option (Bool × Unit) :=
  Option.bind (q169 N) fun r0 => Option.bind (q61 N (List.take (Int.toNat ((↑(4 : Nat) : Int) - (0 : Int))) [Fr.a0 a0, Fr.a1 a0, Fr.a2 a0, Fr.a3 a0]) (List.take (Int.toNat ((↑(4 : Nat) : Int) - (0 : Int))) [Fr.a0 (Prod.fst r0), Fr.a1 (Prod.fst r0), Fr.a2 (Prod.fst r0), Fr.a3 (Prod.fst r0)])) fun r1 => some (((ltI (Prod.fst r1) (0 : Int)), ()))
theorem p79_t : p79 = q79 := by
  (repeat (apply funext; intro _))
  simp only [p79, q79, hide_eq, p169_t, p61_t]
def q88 (N : Nat) : Option (List UInt64 × Unit) :=
  some (([(18446744069414584321 : UInt64), (6034159408538082302 : UInt64), (3691218898639771653 : UInt64), (8353516859464449352 : UInt64)], ()))
theorem p88_t : p88 = q88 := by
  (repeat (apply funext; intro _))
  simp only [p88, q88, ]
def c168_2 (N : Nat) (A_2 : (List UInt64) → (List UInt64) → Int → Option (Bool × Unit)) (a0 : List UInt64) (m1 : List UInt64) (i5 : Int) : Option (Bool × Unit) :=
  cond ((leI (0 : Int) i5)) (must (leI (0 : Int) i5 && ltI i5 (↑(List.length a0) : Int)) (must (leI (0 : Int) i5 && ltI i5 (↑(List.length m1) : Int)) (cond (!List.getD a0 (Int.toNat i5) (0 : UInt64) == List.getD m1 (Int.toNat i5) (0 : UInt64)) (must (leI (0 : Int) i5 && ltI i5 (↑(List.length a0) : Int)) (must (leI (0 : Int) i5 && ltI i5 (↑(List.length m1) : Int)) (some (((ltN (UInt64.toNat (List.getD a0 (Int.toNat i5) (0 : UInt64))) (UInt64.toNat (List.getD m1 (Int.toNat i5) (0 : UInt64)))), ()))))) (A_2 a0 m1 ((wr (i5 - (1 : Int)))))))) (some ((false, ())))
theorem b168_2_t : b168_2 = c168_2 := by
  (repeat (apply funext; intro _))
  simp only [b168_2, c168_2, hide_eq]
def m168_2 (N : Nat) (n : Nat) (a0 : List UInt64) (m1 : List UInt64) (i5 : Int) : Option (Bool × Unit) :=
  loopN (fun A x => c168_2 N (fun a0 m1 i5 => A ((a0, (m1, (i5, ()))), ())) x.1.1 x.1.2.1 x.1.2.2.1) n ((a0, (m1, (i5, ()))), ())
theorem l168_2_t : l168_2 = m168_2 := by
  (repeat (apply funext; intro _))
  simp only [l168_2, m168_2, b168_2_t]
theorem m168_2_succ (N : Nat) (n : Nat) (a0 : List UInt64) (m1 : List UInt64) (i5 : Int) : m168_2 N (n + 1) a0 m1 i5 = c168_2 N (m168_2 N n) a0 m1 i5 := rfl
def q168 (N : Nat) (a0 : List UInt64) (m1 : List UInt64) : Option (Bool × Unit) :=
  m168_2 N N a0 m1 ((wr ((↑(List.length m1) : Int) - (1 : Int))))
theorem p168_t : p168 = q168 := by
  (repeat (apply funext; intro _))
  simp only [p168, q168, hide_eq, l168_2_t]
def q69 (N : Nat) (a0 : Fr) : Option (Bool × Unit) :=
  Option.bind (q88 N) fun r0 => Option.bind (q168 N (List.take (Int.toNat ((↑(4 : Nat) : Int) - (0 : Int))) [Fr.a0 a0, Fr.a1 a0, Fr.a2 a0, Fr.a3 a0]) (Prod.fst r0)) fun r1 => some ((Prod.fst r1, ()))
theorem p69_t : p69 = q69 := by
  (repeat (apply funext; intro _))
  simp only [p69, q69, p168_t, p88_t]
def q173 (N : Nat) (n0 : UInt64) : Option (Fr × Unit) :=
  some (({ a0 := n0, a1 := (0 : UInt64), a2 := (0 : UInt64), a3 := (0 : UInt64) }, ()))
theorem p173_t : p173 = q173 := by
  (repeat (apply funext; intro _))
  simp only [p173, q173, ]
end Go.Proofs.Ytgimohchocjgcaa.V
