import Derived.Test.YtgimohchocjgcaaVGA1
set_option linter.unusedVariables false
set_option linter.unusedSimpArgs false
namespace Go.Proofs.Ytgimohchocjgcaa.V
def p204 (N : Nat) (log0 : Int) : Option (Bool × Unit) :=
  cond (hide (leI (1 : Int) log0)) (some ((hide (leI log0 (6 : Int)), ()))) (some ((false, ())))
def g204 (N : Nat) : Sg := sgK [K.int] [K.bool] fun x => p204 N x.1
def tab204 : List (Nat × Head) := [
    ]
def env204 (N : Nat) : List (Nat × Sg) := []
theorem env204_ok (N : Nat) : EnvOK Try.prog pd.els (env204 N) := trivial
theorem g204_ok (N : Nat) : SgOK Try.prog pd.els 204 (g204 N) :=
  sgK_ok pd_ok (env_look (env204_ok N)) Try.func204 (name_ne (by kernel_rfl)) [K.int] [K.bool] _ N tab204 4 fun x => by kernel_rfl
def p136 (N : Nat) (log0 : Int) (cell1 : Int) : Option (Fr × Int × Unit) :=
  Option.bind (p204 N log0) fun r0 => cond (hide !Prod.fst r0) (some ((Fr.mk (0 : UInt64) (0 : UInt64) (0 : UInt64) (0 : UInt64), (1 : Int), ()))) (cond (hide (ltI cell1 (0 : Int))) (some ((Fr.mk (0 : UInt64) (0 : UInt64) (0 : UInt64) (0 : UInt64), (1 : Int), ()))) (cond (hide (leI (hide (shlI (3 : Int) (UInt64.toNat (hide (u64I log0))))) cell1)) (some ((Fr.mk (0 : UInt64) (0 : UInt64) (0 : UInt64) (0 : UInt64), (1 : Int), ()))) (Option.bind (p77 N log0) fun r1 => Option.bind (p75 N ((7 : UInt64))) fun r2 => must (!eqI (hide (shlI (1 : Int) (UInt64.toNat (hide (u64I log0))))) (0 : Int)) (Option.bind (p72 N (Fr.mk (Fr.a0 (Prod.fst r2)) (Fr.a1 (Prod.fst r2)) (Fr.a2 (Prod.fst r2)) (Fr.a3 (Prod.fst r2))) ([hide (u64I (hide (wr (Int.tdiv cell1 (hide (shlI (1 : Int) (UInt64.toNat (hide (u64I log0)))))))))])) fun r3 => must (!eqI (hide (shlI (1 : Int) (UInt64.toNat (hide (u64I log0))))) (0 : Int)) (Option.bind (p72 N (Fr.mk (Fr.a0 (Prod.fst r1)) (Fr.a1 (Prod.fst r1)) (Fr.a2 (Prod.fst r1)) (Fr.a3 (Prod.fst r1))) ([hide (u64I (hide (Int.tmod cell1 (hide (shlI (1 : Int) (UInt64.toNat (hide (u64I log0))))))))])) fun r4 => Option.bind (p76 N (Fr.mk (Fr.a0 (Prod.fst r3)) (Fr.a1 (Prod.fst r3)) (Fr.a2 (Prod.fst r3)) (Fr.a3 (Prod.fst r3))) (Fr.mk (Fr.a0 (Prod.fst r4)) (Fr.a1 (Prod.fst r4)) (Fr.a2 (Prod.fst r4)) (Fr.a3 (Prod.fst r4)))) fun r5 => some ((Fr.mk (Fr.a0 (Prod.fst r5)) (Fr.a1 (Prod.fst r5)) (Fr.a2 (Prod.fst r5)) (Fr.a3 (Prod.fst r5)), (0 : Int), ())))))))
def g136 (N : Nat) : Sg := sgK [K.int, K.int] [K.fr, K.int] fun x => p136 N x.1 x.2.1
def tab136 : List (Nat × Head) := [
    ]
def env136 (N : Nat) : List (Nat × Sg) := [(204, g204 N), (77, g77 N), (75, g75 N), (72, g72 N), (76, g76 N)]
theorem env136_ok (N : Nat) : EnvOK Try.prog pd.els (env136 N) := ⟨g204_ok N, ⟨g77_ok N, ⟨g75_ok N, ⟨g72_ok N, ⟨g76_ok N, trivial⟩⟩⟩⟩⟩
theorem g136_ok (N : Nat) : SgOK Try.prog pd.els 136 (g136 N) :=
  sgK_ok pd_ok (env_look (env136_ok N)) Try.func136 (name_ne (by kernel_rfl)) [K.int, K.int] [K.fr, K.int] _ N tab136 4 fun x => by kernel_rfl
end Go.Proofs.Ytgimohchocjgcaa.V
