import Derived.Test.YtgimohchocjgcaaVFM
set_option linter.unusedVariables false
set_option linter.unusedSimpArgs false
namespace Go.Proofs.Ytgimohchocjgcaa.V
def b90_2 (N : Nat) (A_2 : (List Fr) → Int → Int → Option (Bool × Unit)) (l0 : List Fr) (most1 : Int) (i5 : Int) : Option (Bool × Unit) :=
  cond (hide (ltI i5 (↑(List.length l0) : Int))) (must (leI (0 : Int) i5 && ltI i5 (↑(List.length l0) : Int)) (Option.bind (p69 N (Fr.mk (Fr.a0 (List.getD l0 (Int.toNat i5) (Fr.mk (0 : UInt64) (0 : UInt64) (0 : UInt64) (0 : UInt64)))) (Fr.a1 (List.getD l0 (Int.toNat i5) (Fr.mk (0 : UInt64) (0 : UInt64) (0 : UInt64) (0 : UInt64)))) (Fr.a2 (List.getD l0 (Int.toNat i5) (Fr.mk (0 : UInt64) (0 : UInt64) (0 : UInt64) (0 : UInt64)))) (Fr.a3 (List.getD l0 (Int.toNat i5) (Fr.mk (0 : UInt64) (0 : UInt64) (0 : UInt64) (0 : UInt64)))))) fun rr0 => cond (hide !Prod.fst rr0) (some ((false, ()))) (A_2 l0 most1 (hide (wr (i5 + (1 : Int))))))) (some ((hide (leI (↑(List.length l0) : Int) most1), ())))
def l90_2 (N : Nat) (n : Nat) (l0 : List Fr) (most1 : Int) (i5 : Int) : Option (Bool × Unit) :=
  loopN (fun A x => b90_2 N (fun l0 most1 i5 => A ((l0, (most1, (i5, ()))), ())) x.1.1 x.1.2.1 x.1.2.2.1) n ((l0, (most1, (i5, ()))), ())
def p90 (N : Nat) (l0 : List Fr) (most1 : Int) : Option (Bool × Unit) :=
  l90_2 N N l0 most1 ((0 : Int))
def g90 (N : Nat) : Sg := sgK [(K.ro .fr), K.int] [K.bool] fun x => p90 N x.1 x.2.1
def tab90 : List (Nat × Head) := [
    (2, ⟨⟨22, [(0, .u (.c (.ro .fr))), (1, .u (.c (.int))), (5, .u (.c (.int)))], []⟩, .exit 0⟩)]
def env90 (N : Nat) : List (Nat × Sg) := [(69, g69 N)]
theorem env90_ok (N : Nat) : EnvOK Try.prog pd.els (env90 N) := ⟨g69_ok N, trivial⟩
theorem g90_ok (N : Nat) : SgOK Try.prog pd.els 90 (g90 N) :=
  sgK_ok pd_ok (env_look (env90_ok N)) Try.func90 (name_ne (by kernel_rfl)) [(K.ro .fr), K.int] [K.bool] _ N tab90 4 fun x => by kernel_rfl
def p190 (N : Nat) (a0 : Fr) (b1 : Fr) : Option (Fr × Unit) :=
  Option.bind (p94 N (Fr.mk (Fr.a0 a0) (Fr.a1 a0) (Fr.a2 a0) (Fr.a3 a0)) (Fr.mk (Fr.a0 b1) (Fr.a1 b1) (Fr.a2 b1) (Fr.a3 b1))) fun rr0 => some ((Fr.mk (Fr.a0 (Prod.fst rr0)) (Fr.a1 (Prod.fst rr0)) (Fr.a2 (Prod.fst rr0)) (Fr.a3 (Prod.fst rr0)), ()))
def g190 (N : Nat) : Sg := sgK [K.fr, K.fr] [K.fr] fun x => p190 N x.1 x.2.1
def tab190 : List (Nat × Head) := [
    ]
def env190 (N : Nat) : List (Nat × Sg) := [(94, g94 N)]
theorem env190_ok (N : Nat) : EnvOK Try.prog pd.els (env190 N) := ⟨g94_ok N, trivial⟩
theorem g190_ok (N : Nat) : SgOK Try.prog pd.els 190 (g190 N) :=
  sgK_ok pd_ok (env_look (env190_ok N)) Try.func190 (name_ne (by kernel_rfl)) [K.fr, K.fr] [K.fr] _ N tab190 4 fun x => by kernel_rfl
end Go.Proofs.Ytgimohchocjgcaa.V
