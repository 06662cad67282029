/- What the program's functions compute, as plain functions; each one's contract. Printed by a program of this work. -/
import Derived.Test.YtgimohchocjgcaaVTL
import Derived.KernelRfl
set_option linter.unusedVariables false
namespace Go.Proofs.Ytgimohchocjgcaa.V

/-! #### 6 -/

def p6 (N : Nat) (a0 : List UInt64) (m1 : List UInt64) : Option (Bool × Unit) :=
  Option.bind (p51 N) fun r0 => cond (hide !Prod.fst r0) (some ((false, ()))) (cond (hide (ltI (24 : Int) (↑(List.length a0) : Int))) (some ((true, ()))) (cond (hide (ltI (12 : Int) (↑(List.length m1) : Int))) (some ((true, ()))) (Option.bind (p52 N a0 m1) fun r1 => Option.bind (p53 N a0 m1) fun r2 => cond (hide (eqI (Prod.fst (Prod.snd r1)) (Prod.fst (Prod.snd r2)))) (Option.bind (p54 N (Prod.fst r1) (Prod.fst r2)) fun r3 => some ((Prod.fst r3, ()))) (some ((false, ()))))))

def g6 (N : Nat) : Sg := sgK [(K.ro .u64), (K.ro .u64)] [K.bool] fun x => p6 N x.1 x.2.1

def tab6 : List (Nat × Head) := [
    ]

def env6 (N : Nat) : List (Nat × Sg) := [(51, g51 N), (52, g52 N), (53, g53 N), (54, g54 N)]

theorem env6_ok (N : Nat) : EnvOK Try.prog pd.els (env6 N) := ⟨g51_ok N, ⟨g52_ok N, ⟨g53_ok N, ⟨g54_ok N, trivial⟩⟩⟩⟩

theorem g6_ok (N : Nat) : SgOK Try.prog pd.els 6 (g6 N) :=
  sgK_ok pd_ok (env_look (env6_ok N)) Try.func6 (name_ne (by kernel_rfl)) [(K.ro .u64), (K.ro .u64)] [K.bool] _ N tab6 4 fun x => by kernel_rfl

/-! #### 8 -/

def p8 (N : Nat) (a0 : List UInt64) (n1 : Int) (b2 : List UInt8) : Option (Bool × Unit) :=
  Option.bind (p51 N) fun r0 => cond (hide !Prod.fst r0) (some ((false, ()))) (cond (hide (ltI (24 : Int) (↑(List.length a0) : Int))) (some ((true, ()))) (cond (hide (ltI (192 : Int) (↑(List.length b2) : Int))) (some ((true, ()))) (Option.bind (p57 N a0 n1) fun r1 => Option.bind (p58 N a0 n1) fun r2 => cond (hide (eqI (Prod.fst (Prod.snd r1)) (Prod.fst (Prod.snd r2)))) (cond (hide (eqB (Prod.fst r1) (Prod.fst r2))) (Option.bind (p59 N b2) fun r3 => Option.bind (p60 N b2) fun r4 => Option.bind (p54 N (Prod.fst r3) (Prod.fst r4)) fun r5 => some ((Prod.fst r5, ()))) (some ((false, ())))) (some ((false, ()))))))

def g8 (N : Nat) : Sg := sgK [(K.ro .u64), K.int, (K.ro .u8)] [K.bool] fun x => p8 N x.1 x.2.1 x.2.2.1

def tab8 : List (Nat × Head) := [
    ]

def env8 (N : Nat) : List (Nat × Sg) := [(51, g51 N), (57, g57 N), (58, g58 N), (59, g59 N), (60, g60 N), (54, g54 N)]

theorem env8_ok (N : Nat) : EnvOK Try.prog pd.els (env8 N) := ⟨g51_ok N, ⟨g57_ok N, ⟨g58_ok N, ⟨g59_ok N, ⟨g60_ok N, ⟨g54_ok N, trivial⟩⟩⟩⟩⟩⟩

theorem g8_ok (N : Nat) : SgOK Try.prog pd.els 8 (g8 N) :=
  sgK_ok pd_ok (env_look (env8_ok N)) Try.func8 (name_ne (by kernel_rfl)) [(K.ro .u64), K.int, (K.ro .u8)] [K.bool] _ N tab8 4 fun x => by kernel_rfl

/-! #### 10 -/

def b10_11 (N : Nat) (A_11 : (List UInt64) → (List UInt64) → Bool → Int → (List UInt64) → (List UInt64) → (List UInt64) → Option (Bool × Unit)) (a0 : List UInt64) (b1 : List UInt64) (is13 : Bool) (i14 : Int) (x5o : List UInt64) (y6o : List UInt64) (s11o : List UInt64) : Option (Bool × Unit) :=
  cond (hide (ltI i14 (↑(List.length s11o) : Int))) (must (leI (0 : Int) i14 && ltI i14 (↑(List.length s11o) : Int)) (A_11 a0 b1 is13 (hide (wr (i14 + (1 : Int)))) x5o y6o (setL s11o (Int.toNat i14) (77 : UInt64)))) (cond is13 (Option.bind (p54 N a0 x5o) fun r0 => cond (Prod.fst r0) (Option.bind (p54 N b1 y6o) fun r1 => some ((Prod.fst r1, ()))) (some ((false, ())))) (some ((false, ()))))

def l10_11 (N : Nat) (n : Nat) (a0 : List UInt64) (b1 : List UInt64) (is13 : Bool) (i14 : Int) (x5o : List UInt64) (y6o : List UInt64) (s11o : List UInt64) : Option (Bool × Unit) :=
  loopN (fun A x => b10_11 N (fun a0 b1 is13 i14 x5o y6o s11o => A ((a0, (b1, ((), ((), ((), (is13, (i14, ()))))))), (x5o, (y6o, (s11o, ()))))) x.1.1 x.1.2.1 x.1.2.2.2.2.2.1 x.1.2.2.2.2.2.2.1 x.2.1 x.2.2.1 x.2.2.2.1) n ((a0, (b1, ((), ((), ((), (is13, (i14, ()))))))), (x5o, (y6o, (s11o, ()))))

theorem l10_11_zero (N : Nat) (a0 : List UInt64) (b1 : List UInt64) (is13 : Bool) (i14 : Int) (x5o : List UInt64) (y6o : List UInt64) (s11o : List UInt64) : l10_11 N 0 a0 b1 is13 i14 x5o y6o s11o = none := rfl

theorem l10_11_succ (N : Nat) (n : Nat) (a0 : List UInt64) (b1 : List UInt64) (is13 : Bool) (i14 : Int) (x5o : List UInt64) (y6o : List UInt64) (s11o : List UInt64) : l10_11 N (n + 1) a0 b1 is13 i14 x5o y6o s11o = b10_11 N (l10_11 N n) a0 b1 is13 i14 x5o y6o s11o := rfl

def p10 (N : Nat) (a0 : List UInt64) (b1 : List UInt64) : Option (Bool × Unit) :=
  Option.bind (p51 N) fun r0 => cond (hide !Prod.fst r0) (some ((false, ()))) (cond (hide (ltI (12 : Int) (↑(List.length a0) : Int))) (some ((true, ()))) (cond (hide (ltI (12 : Int) (↑(List.length b1) : Int))) (some ((true, ()))) (must (leN (((0 : Nat) + List.length a0) * (8 : Nat)) (140737488355328 : Nat)) (must (leN (((0 : Nat) + List.length b1) * (8 : Nat)) (140737488355328 : Nat)) (Option.bind (p63 N a0 b1) fun r1 => Option.bind (p64 N a0 b1) fun r2 => Option.bind (p62 N a0 b1) fun r3 => Option.bind (p55 N a0 b1) fun r4 => Option.bind (p61 N a0 b1) fun r5 => Option.bind (p65 N a0 b1) fun r6 => cond (hide (eqI (Prod.fst r5) (Prod.fst r6))) (Option.bind (p66 N a0 b1) fun r7 => Option.bind (p54 N (Prod.fst r3) (Prod.fst r7)) fun r8 => cond (Prod.fst r8) (cond (hide (eqI (Prod.fst (Prod.snd r1)) (Prod.fst (Prod.snd r2)))) (Option.bind (p54 N (Prod.fst r1) (Prod.fst r2)) fun r9 => cond (Prod.fst r9) (Option.bind (p67 N a0 b1) fun r10 => Option.bind (p54 N (Prod.fst r4) (Prod.fst r10)) fun r11 => l10_11 N N a0 b1 (Prod.fst r11) ((0 : Int)) a0 b1 (Prod.fst r3)) (l10_11 N N a0 b1 false ((0 : Int)) a0 b1 (Prod.fst r3))) (l10_11 N N a0 b1 false ((0 : Int)) a0 b1 (Prod.fst r3))) (l10_11 N N a0 b1 false ((0 : Int)) a0 b1 (Prod.fst r3))) (l10_11 N N a0 b1 false ((0 : Int)) a0 b1 (Prod.fst r3)))))))

def g10 (N : Nat) : Sg := sgK [(K.ro .u64), (K.ro .u64)] [K.bool] fun x => p10 N x.1 x.2.1

def tab10 : List (Nat × Head) := [
    (11, ⟨⟨100, [(0, .u (.c (.ro .u64))), (1, .u (.c (.ro .u64))), (5, .u (.c (.row 12000000))), (6, .u (.c (.row 12000001))), (11, .u (.c (.row 12000002))), (13, .u (.c (.bool))), (14, .u (.c (.int)))], [(12000000, ⟨true, 0, 42, .vec .u64⟩), (12000001, ⟨true, 0, 42, .vec .u64⟩), (12000002, ⟨true, 0, 42, .vec .u64⟩)]⟩, .exit 0⟩)]

def env10 (N : Nat) : List (Nat × Sg) := [(51, g51 N), (63, g63 N), (64, g64 N), (62, g62 N), (55, g55 N), (61, g61 N), (65, g65 N), (66, g66 N), (54, g54 N), (67, g67 N)]

theorem env10_ok (N : Nat) : EnvOK Try.prog pd.els (env10 N) := ⟨g51_ok N, ⟨g63_ok N, ⟨g64_ok N, ⟨g62_ok N, ⟨g55_ok N, ⟨g61_ok N, ⟨g65_ok N, ⟨g66_ok N, ⟨g54_ok N, ⟨g67_ok N, trivial⟩⟩⟩⟩⟩⟩⟩⟩⟩⟩

theorem g10_ok (N : Nat) : SgOK Try.prog pd.els 10 (g10 N) :=
  sgK_ok pd_ok (env_look (env10_ok N)) Try.func10 (name_ne (by kernel_rfl)) [(K.ro .u64), (K.ro .u64)] [K.bool] _ N tab10 4 fun x => by kernel_rfl

/-! #### 11 -/

def p11 (N : Nat) (a0 : List UInt64) (b1 : List UInt64) (c2 : List UInt64) : Option (Bool × Unit) :=
  Option.bind (p51 N) fun r0 => cond (hide !Prod.fst r0) (some ((false, ()))) (cond (hide (ltI (6 : Int) (↑(List.length a0) : Int))) (some ((true, ()))) (cond (hide (ltI (6 : Int) (↑(List.length b1) : Int))) (some ((true, ()))) (cond (hide (ltI (6 : Int) (↑(List.length c2) : Int))) (some ((true, ()))) (Option.bind (p62 N a0 b1) fun r1 => Option.bind (p55 N (Prod.fst r1) c2) fun r2 => Option.bind (p55 N a0 c2) fun r3 => Option.bind (p55 N b1 c2) fun r4 => Option.bind (p62 N (Prod.fst r3) (Prod.fst r4)) fun r5 => Option.bind (p54 N (Prod.fst r2) (Prod.fst r5)) fun r6 => cond (Prod.fst r6) (Option.bind (p55 N a0 b1) fun r16 => Option.bind (p55 N b1 a0) fun r17 => Option.bind (p54 N (Prod.fst r16) (Prod.fst r17)) fun r18 => cond (Prod.fst r18) (Option.bind (p55 N a0 b1) fun r28 => Option.bind (p55 N (Prod.fst r28) c2) fun r29 => Option.bind (p55 N b1 c2) fun r30 => Option.bind (p55 N a0 (Prod.fst r30)) fun r31 => Option.bind (p54 N (Prod.fst r29) (Prod.fst r31)) fun r32 => Option.bind (p63 N (Prod.fst r1) b1) fun r33 => cond (hide !Prod.fst r32) (some ((false, ()))) (cond (hide !eqI (Prod.fst (Prod.snd r33)) (0 : Int)) (some ((false, ()))) (Option.bind (p61 N (Prod.fst r33) a0) fun r34 => cond (hide !eqI (Prod.fst r34) (0 : Int)) (some ((false, ()))) (Option.bind (p52 N a0 c2) fun r35 => cond (hide !eqI (Prod.fst (Prod.snd r35)) (0 : Int)) (cond (hide (eqI (Prod.fst (Prod.snd r35)) (7 : Int))) (Option.bind (p61 N c2 []) fun r41 => cond (hide (eqI (Prod.fst r41) (0 : Int))) (some ((hide (eqI (↑(List.length (Prod.fst r35)) : Int) (0 : Int)), ()))) (some ((false, ())))) (some ((false, ())))) (Option.bind (p55 N b1 c2) fun r36 => Option.bind (p62 N a0 (Prod.fst r36)) fun r37 => Option.bind (p52 N (Prod.fst r37) c2) fun r38 => Option.bind (p54 N (Prod.fst r35) (Prod.fst r38)) fun r39 => cond (Prod.fst r39) (Option.bind (p61 N (Prod.fst r35) c2) fun r40 => some ((hide (ltI (Prod.fst r40) (0 : Int)), ()))) (some ((false, ())))))))) (Option.bind (p63 N (Prod.fst r1) b1) fun r19 => cond (hide !false) (some ((false, ()))) (cond (hide !eqI (Prod.fst (Prod.snd r19)) (0 : Int)) (some ((false, ()))) (Option.bind (p61 N (Prod.fst r19) a0) fun r20 => cond (hide !eqI (Prod.fst r20) (0 : Int)) (some ((false, ()))) (Option.bind (p52 N a0 c2) fun r21 => cond (hide !eqI (Prod.fst (Prod.snd r21)) (0 : Int)) (cond (hide (eqI (Prod.fst (Prod.snd r21)) (7 : Int))) (Option.bind (p61 N c2 []) fun r27 => cond (hide (eqI (Prod.fst r27) (0 : Int))) (some ((hide (eqI (↑(List.length (Prod.fst r21)) : Int) (0 : Int)), ()))) (some ((false, ())))) (some ((false, ())))) (Option.bind (p55 N b1 c2) fun r22 => Option.bind (p62 N a0 (Prod.fst r22)) fun r23 => Option.bind (p52 N (Prod.fst r23) c2) fun r24 => Option.bind (p54 N (Prod.fst r21) (Prod.fst r24)) fun r25 => cond (Prod.fst r25) (Option.bind (p61 N (Prod.fst r21) c2) fun r26 => some ((hide (ltI (Prod.fst r26) (0 : Int)), ()))) (some ((false, ()))))))))) (Option.bind (p63 N (Prod.fst r1) b1) fun r7 => cond (hide !false) (some ((false, ()))) (cond (hide !eqI (Prod.fst (Prod.snd r7)) (0 : Int)) (some ((false, ()))) (Option.bind (p61 N (Prod.fst r7) a0) fun r8 => cond (hide !eqI (Prod.fst r8) (0 : Int)) (some ((false, ()))) (Option.bind (p52 N a0 c2) fun r9 => cond (hide !eqI (Prod.fst (Prod.snd r9)) (0 : Int)) (cond (hide (eqI (Prod.fst (Prod.snd r9)) (7 : Int))) (Option.bind (p61 N c2 []) fun r15 => cond (hide (eqI (Prod.fst r15) (0 : Int))) (some ((hide (eqI (↑(List.length (Prod.fst r9)) : Int) (0 : Int)), ()))) (some ((false, ())))) (some ((false, ())))) (Option.bind (p55 N b1 c2) fun r10 => Option.bind (p62 N a0 (Prod.fst r10)) fun r11 => Option.bind (p52 N (Prod.fst r11) c2) fun r12 => Option.bind (p54 N (Prod.fst r9) (Prod.fst r12)) fun r13 => cond (Prod.fst r13) (Option.bind (p61 N (Prod.fst r9) c2) fun r14 => some ((hide (ltI (Prod.fst r14) (0 : Int)), ()))) (some ((false, ()))))))))))))

def g11 (N : Nat) : Sg := sgK [(K.ro .u64), (K.ro .u64), (K.ro .u64)] [K.bool] fun x => p11 N x.1 x.2.1 x.2.2.1

def tab11 : List (Nat × Head) := [
    ]

def env11 (N : Nat) : List (Nat × Sg) := [(51, g51 N), (62, g62 N), (55, g55 N), (54, g54 N), (63, g63 N), (61, g61 N), (52, g52 N)]

theorem env11_ok (N : Nat) : EnvOK Try.prog pd.els (env11 N) := ⟨g51_ok N, ⟨g62_ok N, ⟨g55_ok N, ⟨g54_ok N, ⟨g63_ok N, ⟨g61_ok N, ⟨g52_ok N, trivial⟩⟩⟩⟩⟩⟩⟩

theorem g11_ok (N : Nat) : SgOK Try.prog pd.els 11 (g11 N) :=
  sgK_ok pd_ok (env_look (env11_ok N)) Try.func11 (name_ne (by kernel_rfl)) [(K.ro .u64), (K.ro .u64), (K.ro .u64)] [K.bool] _ N tab11 4 fun x => by kernel_rfl

/-! #### 12 -/

def p12 (N : Nat) (a0 : List UInt64) (b1 : List UInt64) (c2 : List UInt64) : Option (Bool × Unit) :=
  Option.bind (p51 N) fun r0 => cond (hide !Prod.fst r0) (some ((false, ()))) (cond (hide (ltI (8 : Int) (↑(List.length a0) : Int))) (some ((true, ()))) (cond (hide (ltI (8 : Int) (↑(List.length b1) : Int))) (some ((true, ()))) (cond (hide (ltI (8 : Int) (↑(List.length c2) : Int))) (some ((true, ()))) (Option.bind (p61 N a0 b1) fun r1 => Option.bind (p63 N a0 b1) fun r2 => Option.bind (p61 N b1 a0) fun r3 => cond (hide (eqI (Prod.fst r3) (hide (wr ((0 : Int) - Prod.fst r1))))) (cond (hide !eqI (Prod.fst r1) (-1 : Int)) (Option.bind (p62 N a0 c2) fun r16 => Option.bind (p62 N b1 c2) fun r17 => Option.bind (p61 N (Prod.fst r16) (Prod.fst r17)) fun r18 => cond (hide (eqI (Prod.fst r18) (Prod.fst r1))) (cond (hide (hide (eqI (Prod.fst (Prod.snd r2)) (0 : Int)) == hide (leI (0 : Int) (Prod.fst r1)))) (cond (hide (eqI (Prod.fst (Prod.snd r2)) (0 : Int))) (Option.bind (p61 N a0 a0) fun r20 => some ((hide (eqI (Prod.fst r20) (0 : Int)), ()))) (cond (hide (eqI (Prod.fst (Prod.snd r2)) (1 : Int))) (Option.bind (p61 N a0 a0) fun r19 => some ((hide (eqI (Prod.fst r19) (0 : Int)), ()))) (some ((false, ()))))) (some ((false, ())))) (some ((false, ())))) (Option.bind (p61 N b1 c2) fun r4 => cond (hide !eqI (Prod.fst r4) (-1 : Int)) (Option.bind (p62 N a0 c2) fun r11 => Option.bind (p62 N b1 c2) fun r12 => Option.bind (p61 N (Prod.fst r11) (Prod.fst r12)) fun r13 => cond (hide (eqI (Prod.fst r13) (Prod.fst r1))) (cond (hide (hide (eqI (Prod.fst (Prod.snd r2)) (0 : Int)) == hide (leI (0 : Int) (Prod.fst r1)))) (cond (hide (eqI (Prod.fst (Prod.snd r2)) (0 : Int))) (Option.bind (p61 N a0 a0) fun r15 => some ((hide (eqI (Prod.fst r15) (0 : Int)), ()))) (cond (hide (eqI (Prod.fst (Prod.snd r2)) (1 : Int))) (Option.bind (p61 N a0 a0) fun r14 => some ((hide (eqI (Prod.fst r14) (0 : Int)), ()))) (some ((false, ()))))) (some ((false, ())))) (some ((false, ())))) (Option.bind (p61 N a0 c2) fun r5 => cond (hide (eqI (Prod.fst r5) (-1 : Int))) (Option.bind (p62 N a0 c2) fun r6 => Option.bind (p62 N b1 c2) fun r7 => Option.bind (p61 N (Prod.fst r6) (Prod.fst r7)) fun r8 => cond (hide (eqI (Prod.fst r8) (Prod.fst r1))) (cond (hide (hide (eqI (Prod.fst (Prod.snd r2)) (0 : Int)) == hide (leI (0 : Int) (Prod.fst r1)))) (cond (hide (eqI (Prod.fst (Prod.snd r2)) (0 : Int))) (Option.bind (p61 N a0 a0) fun r10 => some ((hide (eqI (Prod.fst r10) (0 : Int)), ()))) (cond (hide (eqI (Prod.fst (Prod.snd r2)) (1 : Int))) (Option.bind (p61 N a0 a0) fun r9 => some ((hide (eqI (Prod.fst r9) (0 : Int)), ()))) (some ((false, ()))))) (some ((false, ())))) (some ((false, ())))) (some ((false, ())))))) (some ((false, ())))))))

def g12 (N : Nat) : Sg := sgK [(K.ro .u64), (K.ro .u64), (K.ro .u64)] [K.bool] fun x => p12 N x.1 x.2.1 x.2.2.1

def tab12 : List (Nat × Head) := [
    ]

def env12 (N : Nat) : List (Nat × Sg) := [(51, g51 N), (61, g61 N), (63, g63 N), (62, g62 N)]

theorem env12_ok (N : Nat) : EnvOK Try.prog pd.els (env12 N) := ⟨g51_ok N, ⟨g61_ok N, ⟨g63_ok N, ⟨g62_ok N, trivial⟩⟩⟩⟩

theorem g12_ok (N : Nat) : SgOK Try.prog pd.els 12 (g12 N) :=
  sgK_ok pd_ok (env_look (env12_ok N)) Try.func12 (name_ne (by kernel_rfl)) [(K.ro .u64), (K.ro .u64), (K.ro .u64)] [K.bool] _ N tab12 4 fun x => by kernel_rfl

end Go.Proofs.Ytgimohchocjgcaa.V
