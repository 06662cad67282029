/- What the program's functions compute, as plain functions; each one's contract. Printed by a program of this work. -/
import Derived.Test.YtgimohchocjgcaaVFM
set_option linter.unusedVariables false
set_option linter.unusedSimpArgs false
namespace Go.Proofs.Ytgimohchocjgcaa.V

/-! #### 15 -/

def b15_10 (N : Nat) (A_10 : Int → Int → Fr → Option (Bool × Unit)) (log0 : Int) (i7 : Int) (ob0 : Fr) : Option (Bool × Unit) :=
  cond (hide (ltI i7 log0)) (Option.bind (p75 N ((1 : UInt64))) fun r1 => cond (hide (eqL El.u64 [Fr.a0 ob0, Fr.a1 ob0, Fr.a2 ob0, Fr.a3 ob0] [Fr.a0 (Prod.fst r1), Fr.a1 (Prod.fst r1), Fr.a2 (Prod.fst r1), Fr.a3 (Prod.fst r1)])) (some ((false, ()))) (Option.bind (p76 N ({ a0 := Fr.a0 ob0, a1 := Fr.a1 ob0, a2 := Fr.a2 ob0, a3 := Fr.a3 ob0 }) ({ a0 := Fr.a0 ob0, a1 := Fr.a1 ob0, a2 := Fr.a2 ob0, a3 := Fr.a3 ob0 })) fun r2 => A_10 log0 (hide (wr (i7 + (1 : Int)))) ({ a0 := Fr.a0 (Prod.fst r2), a1 := Fr.a1 (Prod.fst r2), a2 := Fr.a2 (Prod.fst r2), a3 := Fr.a3 (Prod.fst r2) }))) (Option.bind (p75 N ((1 : UInt64))) fun r0 => some ((hide (eqL El.u64 [Fr.a0 ob0, Fr.a1 ob0, Fr.a2 ob0, Fr.a3 ob0] [Fr.a0 (Prod.fst r0), Fr.a1 (Prod.fst r0), Fr.a2 (Prod.fst r0), Fr.a3 (Prod.fst r0)]), ())))

def l15_10 (N : Nat) (n : Nat) (log0 : Int) (i7 : Int) (ob0 : Fr) : Option (Bool × Unit) :=
  loopN (fun A x => b15_10 N (fun log0 i7 ob0 => A ((log0, ((), (i7, ()))), (ob0, ()))) x.1.1 x.1.2.2.1 x.2.1) n ((log0, ((), (i7, ()))), (ob0, ()))

theorem l15_10_zero (N : Nat) (log0 : Int) (i7 : Int) (ob0 : Fr) : l15_10 N 0 log0 i7 ob0 = none := rfl

theorem l15_10_succ (N : Nat) (n : Nat) (log0 : Int) (i7 : Int) (ob0 : Fr) : l15_10 N (n + 1) log0 i7 ob0 = b15_10 N (l15_10 N n) log0 i7 ob0 := rfl

def p15 (N : Nat) (log0 : Int) : Option (Bool × Unit) :=
  Option.bind (p68 N) fun r0 => cond (hide !Prod.fst r0) (some ((false, ()))) (Option.bind (p77 N log0) fun r1 => Option.bind (p78 N log0) fun r2 => cond (hide !eqI (Prod.fst (Prod.snd r1)) (Prod.fst (Prod.snd r2))) (some ((false, ()))) (cond (hide !eqL El.u64 [Fr.a0 (Prod.fst r1), Fr.a1 (Prod.fst r1), Fr.a2 (Prod.fst r1), Fr.a3 (Prod.fst r1)] [Fr.a0 (Prod.fst r2), Fr.a1 (Prod.fst r2), Fr.a2 (Prod.fst r2), Fr.a3 (Prod.fst r2)]) (some ((false, ()))) (cond (hide !eqI (Prod.fst (Prod.snd r1)) (0 : Int)) (some ((true, ()))) (l15_10 N N log0 ((0 : Int)) ({ a0 := Fr.a0 (Prod.fst r1), a1 := Fr.a1 (Prod.fst r1), a2 := Fr.a2 (Prod.fst r1), a3 := Fr.a3 (Prod.fst r1) })))))

def g15 (N : Nat) : Sg := sgK [K.int] [K.bool] fun x => p15 N x.1

def tab15 : List (Nat × Head) := [
    (10, ⟨⟨44, [(0, .u (.c (.int))), (3, .u (.c (.ptr0 11000000 0))), (7, .u (.c (.int)))], [(11000000, ⟨false, 4, 53, .fr⟩)]⟩, .exit 0⟩)]

def env15 (N : Nat) : List (Nat × Sg) := [(68, g68 N), (77, g77 N), (78, g78 N), (75, g75 N), (76, g76 N)]

theorem env15_ok (N : Nat) : EnvOK Try.prog pd.els (env15 N) := ⟨g68_ok N, ⟨g77_ok N, ⟨g78_ok N, ⟨g75_ok N, ⟨g76_ok N, trivial⟩⟩⟩⟩⟩

theorem g15_ok (N : Nat) : SgOK Try.prog pd.els 15 (g15 N) :=
  sgK_ok pd_ok (env_look (env15_ok N)) Try.func15 (name_ne (by kernel_rfl)) [K.int] [K.bool] _ N tab15 4 fun x => by kernel_rfl

end Go.Proofs.Ytgimohchocjgcaa.V
