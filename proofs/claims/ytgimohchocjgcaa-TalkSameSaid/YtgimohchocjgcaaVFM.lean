import Derived.Test.YtgimohchocjgcaaVTM
import Derived.KernelRfl
set_option linter.unusedVariables false
set_option linter.unusedSimpArgs false
namespace Go.Proofs.Ytgimohchocjgcaa.V
def p169 (N : Nat) : Option (Fr × Unit) :=
  some (({ a0 := (18446744069414584321 : UInt64), a1 := (6034159408538082302 : UInt64), a2 := (3691218898639771653 : UInt64), a3 := (8353516859464449352 : UInt64) }, ()))
def g169 (N : Nat) : Sg := sgK [] [K.fr] fun x => p169 N
def tab169 : List (Nat × Head) := [
    ]
def env169 (N : Nat) : List (Nat × Sg) := []
theorem env169_ok (N : Nat) : EnvOK Try.prog pd.els (env169 N) := trivial
theorem g169_ok (N : Nat) : SgOK Try.prog pd.els 169 (g169 N) :=
  sgK_ok pd_ok (env_look (env169_ok N)) Try.func169 (name_ne (by kernel_rfl)) [] [K.fr] _ N tab169 4 fun x => by kernel_rfl
def p74 (N : Nat) : Option (List UInt64 × Unit) :=
  Option.bind (p169 N) fun r0 => some ((List.take (Int.toNat ((↑(4 : Nat) : Int) - (0 : Int))) [Fr.a0 (Prod.fst r0), Fr.a1 (Prod.fst r0), Fr.a2 (Prod.fst r0), Fr.a3 (Prod.fst r0)], ()))
def g74 (N : Nat) : Sg := sgK [] [(K.view .u64)] fun x => p74 N
def tab74 : List (Nat × Head) := [
    ]
def env74 (N : Nat) : List (Nat × Sg) := [(169, g169 N)]
theorem env74_ok (N : Nat) : EnvOK Try.prog pd.els (env74 N) := ⟨g169_ok N, trivial⟩
theorem g74_ok (N : Nat) : SgOK Try.prog pd.els 74 (g74 N) :=
  sgK_ok pd_ok (env_look (env74_ok N)) Try.func74 (name_ne (by kernel_rfl)) [] [(K.view .u64)] _ N tab74 4 fun x => by kernel_rfl
def p203 (N : Nat) (l0 : List UInt64) : Option (Fr × Unit) :=
  must (Nat.beq (List.length (splice [(0 : UInt64), (0 : UInt64), (0 : UInt64), (0 : UInt64)] (Int.toNat (0 : Int)) (List.take (Int.toNat ((↑(4 : Nat) : Int) - (0 : Int))) l0))) (4 : Nat)) (Option.bind (Fr.of? (splice [(0 : UInt64), (0 : UInt64), (0 : UInt64), (0 : UInt64)] (Int.toNat (0 : Int)) (List.take (Int.toNat ((↑(4 : Nat) : Int) - (0 : Int))) l0))) fun r0 => some ((r0, ())))
def g203 (N : Nat) : Sg := sgK [(K.ro .u64)] [K.fr] fun x => p203 N x.1
def tab203 : List (Nat × Head) := [
    ]
def env203 (N : Nat) : List (Nat × Sg) := []
theorem env203_ok (N : Nat) : EnvOK Try.prog pd.els (env203 N) := trivial
theorem g203_ok (N : Nat) : SgOK Try.prog pd.els 203 (g203 N) :=
  sgK_ok pd_ok (env_look (env203_ok N)) Try.func203 (name_ne (by kernel_rfl)) [(K.ro .u64)] [K.fr] _ N tab203 4 fun x => by kernel_rfl
def p126 (N : Nat) (b0 : List UInt8) : Option (Fr × Unit) :=
  Option.bind (p59 N b0) fun r0 => Option.bind (p74 N) fun r1 => Option.bind (p52 N (Prod.fst r0) (List.take (List.length (Prod.fst r1)) (List.drop (0 : Nat) (Prod.fst r1)))) fun r2 => Option.bind (p203 N (Prod.fst r2)) fun r3 => some (({ a0 := Fr.a0 (Prod.fst r3), a1 := Fr.a1 (Prod.fst r3), a2 := Fr.a2 (Prod.fst r3), a3 := Fr.a3 (Prod.fst r3) }, ()))
def g126 (N : Nat) : Sg := sgK [(K.ro .u8)] [K.fr] fun x => p126 N x.1
def tab126 : List (Nat × Head) := [
    ]
def env126 (N : Nat) : List (Nat × Sg) := [(59, g59 N), (74, g74 N), (52, g52 N), (203, g203 N)]
theorem env126_ok (N : Nat) : EnvOK Try.prog pd.els (env126 N) := ⟨g59_ok N, ⟨g74_ok N, ⟨g52_ok N, ⟨g203_ok N, trivial⟩⟩⟩⟩
theorem g126_ok (N : Nat) : SgOK Try.prog pd.els 126 (g126 N) :=
  sgK_ok pd_ok (env_look (env126_ok N)) Try.func126 (name_ne (by kernel_rfl)) [(K.ro .u8)] [K.fr] _ N tab126 4 fun x => by kernel_rfl
end Go.Proofs.Ytgimohchocjgcaa.V
