import Derived.Test.YtgimohchocjgcaaVFM
set_option linter.unusedVariables false
set_option linter.unusedSimpArgs false
namespace Go.Proofs.Ytgimohchocjgcaa.V
def p190 (N : Nat) (a0 : Fr) (b1 : Fr) : Option (Fr × Unit) :=
  Option.bind (p94 N ({ a0 := Fr.a0 a0, a1 := Fr.a1 a0, a2 := Fr.a2 a0, a3 := Fr.a3 a0 }) ({ a0 := Fr.a0 b1, a1 := Fr.a1 b1, a2 := Fr.a2 b1, a3 := Fr.a3 b1 })) fun r0 => some (({ a0 := Fr.a0 (Prod.fst r0), a1 := Fr.a1 (Prod.fst r0), a2 := Fr.a2 (Prod.fst r0), a3 := Fr.a3 (Prod.fst r0) }, ()))
def g190 (N : Nat) : Sg := sgK [K.fr, K.fr] [K.fr] fun x => p190 N x.1 x.2.1
def tab190 : List (Nat × Head) := [
    ]
def env190 (N : Nat) : List (Nat × Sg) := [(94, g94 N)]
theorem env190_ok (N : Nat) : EnvOK Try.prog pd.els (env190 N) := ⟨g94_ok N, trivial⟩
theorem g190_ok (N : Nat) : SgOK Try.prog pd.els 190 (g190 N) :=
  sgK_ok pd_ok (env_look (env190_ok N)) Try.func190 (name_ne (by kernel_rfl)) [K.fr, K.fr] [K.fr] _ N tab190 4 fun x => by kernel_rfl
end Go.Proofs.Ytgimohchocjgcaa.V
