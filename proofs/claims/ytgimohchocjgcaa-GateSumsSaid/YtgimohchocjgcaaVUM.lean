/- What the program's functions compute, as plain functions; each one's contract. Printed by a program of this work. -/
import Derived.Test.YtgimohchocjgcaaVTM
import Derived.Test.YtgimohchocjgcaaVUL
import Derived.KernelRfl
set_option linter.unusedVariables false
set_option linter.unusedSimpArgs false
namespace Go.Proofs.Ytgimohchocjgcaa.V

def q6 (N : Nat) (a0 : List UInt64) (m1 : List UInt64) : Option (Bool × Unit) :=
  Option.bind (q51 N) fun r0 => cond (!Prod.fst r0) (some ((false, ()))) (cond ((ltI (24 : Int) (↑(List.length a0) : Int))) (some ((true, ()))) (cond ((ltI (12 : Int) (↑(List.length m1) : Int))) (some ((true, ()))) (Option.bind (q52 N a0 m1) fun r1 => Option.bind (q53 N a0 m1) fun r2 => cond ((eqI (Prod.fst (Prod.snd r1)) (Prod.fst (Prod.snd r2)))) (Option.bind (q54 N (Prod.fst r1) (Prod.fst r2)) fun r3 => some ((Prod.fst r3, ()))) (some ((false, ()))))))

theorem p6_t : p6 = q6 := by
  (repeat (apply funext; intro _))
  simp only [p6, q6, hide_eq, p51_t, p52_t, p53_t, p54_t]

def q8 (N : Nat) (a0 : List UInt64) (n1 : Int) (b2 : List UInt8) : Option (Bool × Unit) :=
  Option.bind (q51 N) fun r0 => cond (!Prod.fst r0) (some ((false, ()))) (cond ((ltI (24 : Int) (↑(List.length a0) : Int))) (some ((true, ()))) (cond ((ltI (192 : Int) (↑(List.length b2) : Int))) (some ((true, ()))) (Option.bind (q57 N a0 n1) fun r1 => Option.bind (q58 N a0 n1) fun r2 => cond ((eqI (Prod.fst (Prod.snd r1)) (Prod.fst (Prod.snd r2)))) (cond ((eqB (Prod.fst r1) (Prod.fst r2))) (Option.bind (q59 N b2) fun r3 => Option.bind (q60 N b2) fun r4 => Option.bind (q54 N (Prod.fst r3) (Prod.fst r4)) fun r5 => some ((Prod.fst r5, ()))) (some ((false, ())))) (some ((false, ()))))))

theorem p8_t : p8 = q8 := by
  (repeat (apply funext; intro _))
  simp only [p8, q8, hide_eq, p51_t, p54_t, p57_t, p58_t, p59_t, p60_t]

def c10_11 (N : Nat) (A_11 : (List UInt64) → (List UInt64) → Bool → Int → (List UInt64) → (List UInt64) → (List UInt64) → Option (Bool × Unit)) (a0 : List UInt64) (b1 : List UInt64) (is13 : Bool) (i14 : Int) (x5o : List UInt64) (y6o : List UInt64) (s11o : List UInt64) : Option (Bool × Unit) :=
  cond ((ltI i14 (↑(List.length s11o) : Int))) (must (leI (0 : Int) i14 && ltI i14 (↑(List.length s11o) : Int)) (A_11 a0 b1 is13 ((wr (i14 + (1 : Int)))) x5o y6o (setL s11o (Int.toNat i14) (77 : UInt64)))) (cond is13 (Option.bind (q54 N a0 x5o) fun r0 => cond (Prod.fst r0) (Option.bind (q54 N b1 y6o) fun r1 => some ((Prod.fst r1, ()))) (some ((false, ())))) (some ((false, ()))))

theorem b10_11_t : b10_11 = c10_11 := by
  (repeat (apply funext; intro _))
  simp only [b10_11, c10_11, hide_eq, p54_t]

def m10_11 (N : Nat) (n : Nat) (a0 : List UInt64) (b1 : List UInt64) (is13 : Bool) (i14 : Int) (x5o : List UInt64) (y6o : List UInt64) (s11o : List UInt64) : Option (Bool × Unit) :=
  loopN (fun A x => c10_11 N (fun a0 b1 is13 i14 x5o y6o s11o => A ((a0, (b1, ((), ((), ((), (is13, (i14, ()))))))), (x5o, (y6o, (s11o, ()))))) x.1.1 x.1.2.1 x.1.2.2.2.2.2.1 x.1.2.2.2.2.2.2.1 x.2.1 x.2.2.1 x.2.2.2.1) n ((a0, (b1, ((), ((), ((), (is13, (i14, ()))))))), (x5o, (y6o, (s11o, ()))))

theorem l10_11_t : l10_11 = m10_11 := by
  (repeat (apply funext; intro _))
  simp only [l10_11, m10_11, b10_11_t]

theorem m10_11_zero (N : Nat) (a0 : List UInt64) (b1 : List UInt64) (is13 : Bool) (i14 : Int) (x5o : List UInt64) (y6o : List UInt64) (s11o : List UInt64) : m10_11 N 0 a0 b1 is13 i14 x5o y6o s11o = none := rfl

theorem m10_11_succ (N : Nat) (n : Nat) (a0 : List UInt64) (b1 : List UInt64) (is13 : Bool) (i14 : Int) (x5o : List UInt64) (y6o : List UInt64) (s11o : List UInt64) : m10_11 N (n + 1) a0 b1 is13 i14 x5o y6o s11o = c10_11 N (m10_11 N n) a0 b1 is13 i14 x5o y6o s11o := rfl

def q10 (N : Nat) (a0 : List UInt64) (b1 : List UInt64) : Option (Bool × Unit) :=
  Option.bind (q51 N) fun r0 => cond (!Prod.fst r0) (some ((false, ()))) (cond ((ltI (12 : Int) (↑(List.length a0) : Int))) (some ((true, ()))) (cond ((ltI (12 : Int) (↑(List.length b1) : Int))) (some ((true, ()))) (must (leN (((0 : Nat) + List.length a0) * (8 : Nat)) (140737488355328 : Nat)) (must (leN (((0 : Nat) + List.length b1) * (8 : Nat)) (140737488355328 : Nat)) (Option.bind (q63 N a0 b1) fun r1 => Option.bind (q64 N a0 b1) fun r2 => Option.bind (q62 N a0 b1) fun r3 => Option.bind (q55 N a0 b1) fun r4 => Option.bind (q61 N a0 b1) fun r5 => Option.bind (q65 N a0 b1) fun r6 => cond ((eqI (Prod.fst r5) (Prod.fst r6))) (Option.bind (q66 N a0 b1) fun r7 => Option.bind (q54 N (Prod.fst r3) (Prod.fst r7)) fun r8 => cond (Prod.fst r8) (cond ((eqI (Prod.fst (Prod.snd r1)) (Prod.fst (Prod.snd r2)))) (Option.bind (q54 N (Prod.fst r1) (Prod.fst r2)) fun r9 => cond (Prod.fst r9) (Option.bind (q67 N a0 b1) fun r10 => Option.bind (q54 N (Prod.fst r4) (Prod.fst r10)) fun r11 => m10_11 N N a0 b1 (Prod.fst r11) ((0 : Int)) a0 b1 (Prod.fst r3)) (m10_11 N N a0 b1 false ((0 : Int)) a0 b1 (Prod.fst r3))) (m10_11 N N a0 b1 false ((0 : Int)) a0 b1 (Prod.fst r3))) (m10_11 N N a0 b1 false ((0 : Int)) a0 b1 (Prod.fst r3))) (m10_11 N N a0 b1 false ((0 : Int)) a0 b1 (Prod.fst r3)))))))

theorem p10_t : p10 = q10 := by
  (repeat (apply funext; intro _))
  simp only [p10, q10, hide_eq, l10_11_t, p51_t, p54_t, p55_t, p61_t, p62_t, p63_t, p64_t, p65_t, p66_t, p67_t]

def q11 (N : Nat) (a0 : List UInt64) (b1 : List UInt64) (c2 : List UInt64) : Option (Bool × Unit) :=
  Option.bind (q51 N) fun r0 => cond (!Prod.fst r0) (some ((false, ()))) (cond ((ltI (6 : Int) (↑(List.length a0) : Int))) (some ((true, ()))) (cond ((ltI (6 : Int) (↑(List.length b1) : Int))) (some ((true, ()))) (cond ((ltI (6 : Int) (↑(List.length c2) : Int))) (some ((true, ()))) (Option.bind (q62 N a0 b1) fun r1 => Option.bind (q55 N (Prod.fst r1) c2) fun r2 => Option.bind (q55 N a0 c2) fun r3 => Option.bind (q55 N b1 c2) fun r4 => Option.bind (q62 N (Prod.fst r3) (Prod.fst r4)) fun r5 => Option.bind (q54 N (Prod.fst r2) (Prod.fst r5)) fun r6 => cond (Prod.fst r6) (Option.bind (q55 N a0 b1) fun r16 => Option.bind (q55 N b1 a0) fun r17 => Option.bind (q54 N (Prod.fst r16) (Prod.fst r17)) fun r18 => cond (Prod.fst r18) (Option.bind (q55 N a0 b1) fun r28 => Option.bind (q55 N (Prod.fst r28) c2) fun r29 => Option.bind (q55 N b1 c2) fun r30 => Option.bind (q55 N a0 (Prod.fst r30)) fun r31 => Option.bind (q54 N (Prod.fst r29) (Prod.fst r31)) fun r32 => Option.bind (q63 N (Prod.fst r1) b1) fun r33 => cond (!Prod.fst r32) (some ((false, ()))) (cond (!eqI (Prod.fst (Prod.snd r33)) (0 : Int)) (some ((false, ()))) (Option.bind (q61 N (Prod.fst r33) a0) fun r34 => cond (!eqI (Prod.fst r34) (0 : Int)) (some ((false, ()))) (Option.bind (q52 N a0 c2) fun r35 => cond (!eqI (Prod.fst (Prod.snd r35)) (0 : Int)) (cond ((eqI (Prod.fst (Prod.snd r35)) (7 : Int))) (Option.bind (q61 N c2 []) fun r41 => cond ((eqI (Prod.fst r41) (0 : Int))) (some (((eqI (↑(List.length (Prod.fst r35)) : Int) (0 : Int)), ()))) (some ((false, ())))) (some ((false, ())))) (Option.bind (q55 N b1 c2) fun r36 => Option.bind (q62 N a0 (Prod.fst r36)) fun r37 => Option.bind (q52 N (Prod.fst r37) c2) fun r38 => Option.bind (q54 N (Prod.fst r35) (Prod.fst r38)) fun r39 => cond (Prod.fst r39) (Option.bind (q61 N (Prod.fst r35) c2) fun r40 => some (((ltI (Prod.fst r40) (0 : Int)), ()))) (some ((false, ())))))))) (Option.bind (q63 N (Prod.fst r1) b1) fun r19 => cond (!false) (some ((false, ()))) (cond (!eqI (Prod.fst (Prod.snd r19)) (0 : Int)) (some ((false, ()))) (Option.bind (q61 N (Prod.fst r19) a0) fun r20 => cond (!eqI (Prod.fst r20) (0 : Int)) (some ((false, ()))) (Option.bind (q52 N a0 c2) fun r21 => cond (!eqI (Prod.fst (Prod.snd r21)) (0 : Int)) (cond ((eqI (Prod.fst (Prod.snd r21)) (7 : Int))) (Option.bind (q61 N c2 []) fun r27 => cond ((eqI (Prod.fst r27) (0 : Int))) (some (((eqI (↑(List.length (Prod.fst r21)) : Int) (0 : Int)), ()))) (some ((false, ())))) (some ((false, ())))) (Option.bind (q55 N b1 c2) fun r22 => Option.bind (q62 N a0 (Prod.fst r22)) fun r23 => Option.bind (q52 N (Prod.fst r23) c2) fun r24 => Option.bind (q54 N (Prod.fst r21) (Prod.fst r24)) fun r25 => cond (Prod.fst r25) (Option.bind (q61 N (Prod.fst r21) c2) fun r26 => some (((ltI (Prod.fst r26) (0 : Int)), ()))) (some ((false, ()))))))))) (Option.bind (q63 N (Prod.fst r1) b1) fun r7 => cond (!false) (some ((false, ()))) (cond (!eqI (Prod.fst (Prod.snd r7)) (0 : Int)) (some ((false, ()))) (Option.bind (q61 N (Prod.fst r7) a0) fun r8 => cond (!eqI (Prod.fst r8) (0 : Int)) (some ((false, ()))) (Option.bind (q52 N a0 c2) fun r9 => cond (!eqI (Prod.fst (Prod.snd r9)) (0 : Int)) (cond ((eqI (Prod.fst (Prod.snd r9)) (7 : Int))) (Option.bind (q61 N c2 []) fun r15 => cond ((eqI (Prod.fst r15) (0 : Int))) (some (((eqI (↑(List.length (Prod.fst r9)) : Int) (0 : Int)), ()))) (some ((false, ())))) (some ((false, ())))) (Option.bind (q55 N b1 c2) fun r10 => Option.bind (q62 N a0 (Prod.fst r10)) fun r11 => Option.bind (q52 N (Prod.fst r11) c2) fun r12 => Option.bind (q54 N (Prod.fst r9) (Prod.fst r12)) fun r13 => cond (Prod.fst r13) (Option.bind (q61 N (Prod.fst r9) c2) fun r14 => some (((ltI (Prod.fst r14) (0 : Int)), ()))) (some ((false, ()))))))))))))

theorem p11_t : p11 = q11 := by
  (repeat (apply funext; intro _))
  simp only [p11, q11, hide_eq, p51_t, p52_t, p54_t, p55_t, p61_t, p62_t, p63_t]

def q12 (N : Nat) (a0 : List UInt64) (b1 : List UInt64) (c2 : List UInt64) : Option (Bool × Unit) :=
  Option.bind (q51 N) fun r0 => cond (!Prod.fst r0) (some ((false, ()))) (cond ((ltI (8 : Int) (↑(List.length a0) : Int))) (some ((true, ()))) (cond ((ltI (8 : Int) (↑(List.length b1) : Int))) (some ((true, ()))) (cond ((ltI (8 : Int) (↑(List.length c2) : Int))) (some ((true, ()))) (Option.bind (q61 N a0 b1) fun r1 => Option.bind (q63 N a0 b1) fun r2 => Option.bind (q61 N b1 a0) fun r3 => cond ((eqI (Prod.fst r3) ((wr ((0 : Int) - Prod.fst r1))))) (cond (!eqI (Prod.fst r1) (-1 : Int)) (Option.bind (q62 N a0 c2) fun r16 => Option.bind (q62 N b1 c2) fun r17 => Option.bind (q61 N (Prod.fst r16) (Prod.fst r17)) fun r18 => cond ((eqI (Prod.fst r18) (Prod.fst r1))) (cond (((eqI (Prod.fst (Prod.snd r2)) (0 : Int)) == (leI (0 : Int) (Prod.fst r1)))) (cond ((eqI (Prod.fst (Prod.snd r2)) (0 : Int))) (Option.bind (q61 N a0 a0) fun r20 => some (((eqI (Prod.fst r20) (0 : Int)), ()))) (cond ((eqI (Prod.fst (Prod.snd r2)) (1 : Int))) (Option.bind (q61 N a0 a0) fun r19 => some (((eqI (Prod.fst r19) (0 : Int)), ()))) (some ((false, ()))))) (some ((false, ())))) (some ((false, ())))) (Option.bind (q61 N b1 c2) fun r4 => cond (!eqI (Prod.fst r4) (-1 : Int)) (Option.bind (q62 N a0 c2) fun r11 => Option.bind (q62 N b1 c2) fun r12 => Option.bind (q61 N (Prod.fst r11) (Prod.fst r12)) fun r13 => cond ((eqI (Prod.fst r13) (Prod.fst r1))) (cond (((eqI (Prod.fst (Prod.snd r2)) (0 : Int)) == (leI (0 : Int) (Prod.fst r1)))) (cond ((eqI (Prod.fst (Prod.snd r2)) (0 : Int))) (Option.bind (q61 N a0 a0) fun r15 => some (((eqI (Prod.fst r15) (0 : Int)), ()))) (cond ((eqI (Prod.fst (Prod.snd r2)) (1 : Int))) (Option.bind (q61 N a0 a0) fun r14 => some (((eqI (Prod.fst r14) (0 : Int)), ()))) (some ((false, ()))))) (some ((false, ())))) (some ((false, ())))) (Option.bind (q61 N a0 c2) fun r5 => cond ((eqI (Prod.fst r5) (-1 : Int))) (Option.bind (q62 N a0 c2) fun r6 => Option.bind (q62 N b1 c2) fun r7 => Option.bind (q61 N (Prod.fst r6) (Prod.fst r7)) fun r8 => cond ((eqI (Prod.fst r8) (Prod.fst r1))) (cond (((eqI (Prod.fst (Prod.snd r2)) (0 : Int)) == (leI (0 : Int) (Prod.fst r1)))) (cond ((eqI (Prod.fst (Prod.snd r2)) (0 : Int))) (Option.bind (q61 N a0 a0) fun r10 => some (((eqI (Prod.fst r10) (0 : Int)), ()))) (cond ((eqI (Prod.fst (Prod.snd r2)) (1 : Int))) (Option.bind (q61 N a0 a0) fun r9 => some (((eqI (Prod.fst r9) (0 : Int)), ()))) (some ((false, ()))))) (some ((false, ())))) (some ((false, ())))) (some ((false, ())))))) (some ((false, ())))))))

theorem p12_t : p12 = q12 := by
  (repeat (apply funext; intro _))
  simp only [p12, q12, hide_eq, p51_t, p61_t, p62_t, p63_t]

end Go.Proofs.Ytgimohchocjgcaa.V
