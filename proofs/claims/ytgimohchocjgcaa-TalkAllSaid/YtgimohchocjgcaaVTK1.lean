import Derived.Test.YtgimohchocjgcaaVSM
import Derived.Test.YtgimohchocjgcaaVFM
import Derived.KernelRfl
set_option linter.unusedVariables false
set_option linter.unusedSimpArgs false
namespace Go.Proofs.Ytgimohchocjgcaa.V
def p191 (N : Nat) (t0 : List UInt8) (b1 : List UInt8) : Option (List UInt8 × List UInt8 × Unit) :=
  must (leN (((0 : Nat) + List.length (List.take (Int.toNat ((↑(32 : Nat) : Int) - (0 : Int))) t0)) * (1 : Nat)) (140737488355328 : Nat)) (must (leN ((List.length (List.take (Int.toNat ((↑(32 : Nat) : Int) - (0 : Int))) t0) + List.length b1) * (1 : Nat)) (140737488355328 : Nat)) (Option.bind (p42 N (List.take (Int.toNat ((↑(32 : Nat) : Int) - (0 : Int))) t0 ++ b1)) fun rr0 => must (Nat.beq (List.length (Prod.fst rr0)) (32 : Nat)) (some ((t0, Prod.fst rr0, ())))))
def g191 (N : Nat) : Sg := sgIO 132 [(K.vec .u8), (K.ro .u8)] [(K.vec .u8), (K.vec .u8)] fun x => p191 N x.1 x.2.1
def tab191 : List (Nat × Head) := [
    ]
def env191 (N : Nat) : List (Nat × Sg) := [(42, g42 N)]
theorem env191_ok (N : Nat) : EnvOK Try.prog pd.els (env191 N) := ⟨g42_ok N, trivial⟩
theorem g191_ok (N : Nat) : SgOK Try.prog pd.els 191 (g191 N) :=
  sgIO_ok pd_ok (env_look (env191_ok N)) Try.func191 (name_ne (by kernel_rfl)) 132 (by decide) [(K.vec .u8), (K.ro .u8)] [(K.vec .u8), (K.vec .u8)] _ N tab191 4 fun x => by kernel_rfl
def p104 (N : Nat) (t0 : List UInt8) : Option (List UInt8 × List UInt8 × Unit) :=
  cond (hide false) (some ((t0, [(0 : UInt8), (0 : UInt8), (0 : UInt8), (0 : UInt8), (0 : UInt8), (0 : UInt8), (0 : UInt8), (0 : UInt8), (0 : UInt8), (0 : UInt8), (0 : UInt8), (0 : UInt8), (0 : UInt8), (0 : UInt8), (0 : UInt8), (0 : UInt8), (0 : UInt8), (0 : UInt8), (0 : UInt8), (0 : UInt8), (0 : UInt8), (0 : UInt8), (0 : UInt8), (0 : UInt8), (0 : UInt8), (0 : UInt8), (0 : UInt8), (0 : UInt8), (0 : UInt8), (0 : UInt8), (0 : UInt8), (0 : UInt8)], ()))) (must (Nat.beq (List.length t0) (32 : Nat)) (some ((t0, t0, ()))))
def g104 (N : Nat) : Sg := sgIO 132 [(K.vec .u8)] [(K.vec .u8), (K.vec .u8)] fun x => p104 N x.1
def tab104 : List (Nat × Head) := [
    ]
def env104 (N : Nat) : List (Nat × Sg) := []
theorem env104_ok (N : Nat) : EnvOK Try.prog pd.els (env104 N) := trivial
theorem g104_ok (N : Nat) : SgOK Try.prog pd.els 104 (g104 N) :=
  sgIO_ok pd_ok (env_look (env104_ok N)) Try.func104 (name_ne (by kernel_rfl)) 132 (by decide) [(K.vec .u8)] [(K.vec .u8), (K.vec .u8)] _ N tab104 4 fun x => by kernel_rfl
def b103_3 (N : Nat) (A_3 : (List UInt8) → Int → (List UInt8) → (List UInt8) → Option (List UInt8 × Unit)) (b2 : List UInt8) (shift7 : Int) (ob0 : List UInt8) (head6o : List UInt8) : Option (List UInt8 × Unit) :=
  cond (hide (leI (0 : Int) shift7)) (must (leN ((List.length head6o + List.length [hide (UInt8.ofNat (UInt64.toNat (hide (shr64 (hide (u64I (↑(List.length b2) : Int))) (UInt64.toNat (hide (u64I shift7)))))))]) * (1 : Nat)) (140737488355328 : Nat)) (A_3 b2 (hide (wr (shift7 - (8 : Int)))) ob0 (head6o ++ [hide (UInt8.ofNat (UInt64.toNat (hide (shr64 (hide (u64I (↑(List.length b2) : Int))) (UInt64.toNat (hide (u64I shift7)))))))]))) (must (leN ((List.length head6o + List.length b2) * (1 : Nat)) (140737488355328 : Nat)) (Option.bind (p191 N ob0 (head6o ++ b2)) fun rr0 => must (Nat.beq (List.length (Prod.fst rr0)) (List.length ob0)) (must (Nat.beq (List.length (Prod.fst (Prod.snd rr0))) (32 : Nat)) (some ((Prod.fst (Prod.snd rr0), ()))))))
def l103_3 (N : Nat) (n : Nat) (b2 : List UInt8) (shift7 : Int) (ob0 : List UInt8) (head6o : List UInt8) : Option (List UInt8 × Unit) :=
  loopN (fun A x => b103_3 N (fun b2 shift7 ob0 head6o => A (((), (b2, ((), (shift7, ())))), (ob0, (head6o, ())))) x.1.2.1 x.1.2.2.2.1 x.2.1 x.2.2.1) n (((), (b2, ((), (shift7, ())))), (ob0, (head6o, ())))
def p103 (N : Nat) (t0 : List UInt8) (tag1 : UInt8) (b2 : List UInt8) : Option (List UInt8 × Unit) :=
  cond (hide false) (some ((t0, ()))) (l103_3 N N b2 ((56 : Int)) t0 ([(1 : UInt8), tag1]))
def g103 (N : Nat) : Sg := sgIO 132 [(K.vec .u8), K.u8, (K.ro .u8)] [(K.vec .u8)] fun x => p103 N x.1 x.2.1 x.2.2.1
def tab103 : List (Nat × Head) := [
    (3, ⟨⟨34, [(0, .u (.c (.ptr0 4000000 0))), (2, .u (.c (.ro .u8))), (6, .u (.c (.row 4000001))), (7, .u (.c (.int)))], [(4000000, ⟨false, 32, 1000000, .vec .u8⟩), (4000001, ⟨true, 0, 5, .vec .u8⟩)]⟩, .exit 0⟩)]
def env103 (N : Nat) : List (Nat × Sg) := [(191, g191 N)]
theorem env103_ok (N : Nat) : EnvOK Try.prog pd.els (env103 N) := ⟨g191_ok N, trivial⟩
theorem g103_ok (N : Nat) : SgOK Try.prog pd.els 103 (g103 N) :=
  sgIO_ok pd_ok (env_look (env103_ok N)) Try.func103 (name_ne (by kernel_rfl)) 132 (by decide) [(K.vec .u8), K.u8, (K.ro .u8)] [(K.vec .u8)] _ N tab103 4 fun x => by kernel_rfl
def p102 (N : Nat) (t0 : List UInt8) (tag1 : UInt8) : Option (List UInt8 × Fr × Unit) :=
  cond (hide false) (some ((t0, Fr.mk (0 : UInt64) (0 : UInt64) (0 : UInt64) (0 : UInt64), ()))) (Option.bind (p191 N t0 ([(2 : UInt8), tag1, (0 : UInt8)])) fun rr0 => must (Nat.beq (List.length (Prod.fst rr0)) (List.length t0)) (Option.bind (p191 N (Prod.fst rr0) ([(2 : UInt8), tag1, (1 : UInt8)])) fun rr1 => must (Nat.beq (List.length (Prod.fst rr1)) (List.length (Prod.fst rr0))) (must (Nat.beq (List.length (Prod.fst (Prod.snd rr0))) (32 : Nat)) (must (Nat.beq (List.length (Prod.fst (Prod.snd rr1))) (32 : Nat)) (Option.bind (p191 N (Prod.fst rr1) ([(3 : UInt8), tag1])) fun rr2 => must (Nat.beq (List.length (Prod.fst rr2)) (List.length (Prod.fst rr1))) (must (Nat.beq (List.length (Prod.fst (Prod.snd rr2))) (32 : Nat)) (must (ltN (0 : Nat) (List.length (List.take (Int.toNat ((↑(32 : Nat) : Int) - (0 : Int))) (Prod.fst (Prod.snd rr1)))) && leN ((Int.toNat ((↑(32 : Nat) : Int) - (0 : Int)) + List.length (List.take (Int.toNat ((↑(32 : Nat) : Int) - (0 : Int))) (Prod.fst (Prod.snd rr1)))) * (1 : Nat)) (140737488355328 : Nat)) (Option.bind (p126 N (Prod.fst (Prod.snd rr0) ++ List.take (Int.toNat ((↑(32 : Nat) : Int) - (0 : Int))) (Prod.fst (Prod.snd rr1)))) fun rr3 => some ((Prod.fst (Prod.snd rr2), Fr.mk (Fr.a0 (Prod.fst rr3)) (Fr.a1 (Prod.fst rr3)) (Fr.a2 (Prod.fst rr3)) (Fr.a3 (Prod.fst rr3)), ()))))))))))
def g102 (N : Nat) : Sg := sgIO 132 [(K.vec .u8), K.u8] [(K.vec .u8), K.fr] fun x => p102 N x.1 x.2.1
def tab102 : List (Nat × Head) := [
    ]
def env102 (N : Nat) : List (Nat × Sg) := [(191, g191 N), (126, g126 N)]
theorem env102_ok (N : Nat) : EnvOK Try.prog pd.els (env102 N) := ⟨g191_ok N, ⟨g126_ok N, trivial⟩⟩
theorem g102_ok (N : Nat) : SgOK Try.prog pd.els 102 (g102 N) :=
  sgIO_ok pd_ok (env_look (env102_ok N)) Try.func102 (name_ne (by kernel_rfl)) 132 (by decide) [(K.vec .u8), K.u8] [(K.vec .u8), K.fr] _ N tab102 4 fun x => by kernel_rfl
def p101 (N : Nat) (name0 : List UInt8) : Option (Unit × List UInt8 × Unit) :=
  must (leN ((List.length [(0 : UInt8)] + List.length name0) * (1 : Nat)) (140737488355328 : Nat)) (Option.bind (p42 N ([(0 : UInt8)] ++ name0)) fun rr0 => must (Nat.beq (List.length (Prod.fst rr0)) (32 : Nat) && Nat.ble (32 : Nat) (32 : Nat)) (must (Nat.beq (List.length (Prod.fst rr0)) (32 : Nat)) (some (((), Prod.fst rr0, ())))))
def g101 (N : Nat) : Sg := sgK [K.str] [(K.bxv 32), (K.vec .u8)] fun x => p101 N x.1
def tab101 : List (Nat × Head) := [
    ]
def env101 (N : Nat) : List (Nat × Sg) := [(42, g42 N)]
theorem env101_ok (N : Nat) : EnvOK Try.prog pd.els (env101 N) := ⟨g42_ok N, trivial⟩
theorem g101_ok (N : Nat) : SgOK Try.prog pd.els 101 (g101 N) :=
  sgK_ok pd_ok (env_look (env101_ok N)) Try.func101 (name_ne (by kernel_rfl)) [K.str] [(K.bxv 32), (K.vec .u8)] _ N tab101 4 fun x => by kernel_rfl
def b100_4 (N : Nat) (A_4 : (List Tn) → Int → Option (Bool × Unit)) (l0 : List Tn) (i3 : Int) : Option (Bool × Unit) :=
  cond (hide (ltI i3 (↑(List.length l0) : Int))) (must (leI (0 : Int) i3 && ltI i3 (↑(List.length l0) : Int)) (cond (hide (ltI (200 : Int) (↑(List.length (Tn.b (List.getD l0 (Int.toNat i3) Tn.zero))) : Int))) (some ((false, ()))) (A_4 l0 (hide (wr (i3 + (1 : Int))))))) (some ((true, ())))
def l100_4 (N : Nat) (n : Nat) (l0 : List Tn) (i3 : Int) : Option (Bool × Unit) :=
  loopN (fun A x => b100_4 N (fun l0 i3 => A ((l0, (i3, ())), ())) x.1.1 x.1.2.1) n ((l0, (i3, ())), ())
def p100 (N : Nat) (l0 : List Tn) : Option (Bool × Unit) :=
  cond (hide (ltI (12 : Int) (↑(List.length l0) : Int))) (some ((false, ()))) (l100_4 N N l0 ((0 : Int)))
def g100 (N : Nat) : Sg := sgK [K.rt] [K.bool] fun x => p100 N x.1
def tab100 : List (Nat × Head) := [
    (4, ⟨⟨20, [(0, .u (.c (.rt))), (3, .u (.c (.int)))], []⟩, .exit 0⟩)]
def env100 (N : Nat) : List (Nat × Sg) := []
theorem env100_ok (N : Nat) : EnvOK Try.prog pd.els (env100 N) := trivial
theorem g100_ok (N : Nat) : SgOK Try.prog pd.els 100 (g100 N) :=
  sgK_ok pd_ok (env_look (env100_ok N)) Try.func100 (name_ne (by kernel_rfl)) [K.rt] [K.bool] _ N tab100 4 fun x => by kernel_rfl
def p99 (N : Nat) : Option (Bool × Unit) :=
  Option.bind (p101 N ([(97 : UInt8)])) fun rr0 => cond (hide false) (some ((false, ()))) (Option.bind (p103 N (Prod.fst (Prod.snd rr0)) ((1 : UInt8)) []) fun rr1 => must (Nat.beq (List.length (Prod.fst rr1)) (List.length (Prod.fst (Prod.snd rr0)))) (Option.bind (p102 N (Prod.fst rr1) ((1 : UInt8))) fun rr2 => must (Nat.beq (List.length (Prod.fst rr2)) (List.length (Prod.fst rr1))) (cond (hide !eqL El.u64 [Fr.a0 (Prod.fst (Prod.snd rr2)), Fr.a1 (Prod.fst (Prod.snd rr2)), Fr.a2 (Prod.fst (Prod.snd rr2)), Fr.a3 (Prod.fst (Prod.snd rr2))] [(0 : UInt64), (0 : UInt64), (0 : UInt64), (0 : UInt64)]) (Option.bind (p104 N (Prod.fst rr2)) fun rr3 => must (Nat.beq (List.length (Prod.fst rr3)) (List.length (Prod.fst rr2))) (must (Nat.beq (List.length (Prod.fst (Prod.snd rr3))) (32 : Nat) && Nat.beq (List.length [(0 : UInt8), (0 : UInt8), (0 : UInt8), (0 : UInt8), (0 : UInt8), (0 : UInt8), (0 : UInt8), (0 : UInt8), (0 : UInt8), (0 : UInt8), (0 : UInt8), (0 : UInt8), (0 : UInt8), (0 : UInt8), (0 : UInt8), (0 : UInt8), (0 : UInt8), (0 : UInt8), (0 : UInt8), (0 : UInt8), (0 : UInt8), (0 : UInt8), (0 : UInt8), (0 : UInt8), (0 : UInt8), (0 : UInt8), (0 : UInt8), (0 : UInt8), (0 : UInt8), (0 : UInt8), (0 : UInt8), (0 : UInt8)]) (32 : Nat)) (some ((hide !eqL El.u8 (Prod.fst (Prod.snd rr3)) [(0 : UInt8), (0 : UInt8), (0 : UInt8), (0 : UInt8), (0 : UInt8), (0 : UInt8), (0 : UInt8), (0 : UInt8), (0 : UInt8), (0 : UInt8), (0 : UInt8), (0 : UInt8), (0 : UInt8), (0 : UInt8), (0 : UInt8), (0 : UInt8), (0 : UInt8), (0 : UInt8), (0 : UInt8), (0 : UInt8), (0 : UInt8), (0 : UInt8), (0 : UInt8), (0 : UInt8), (0 : UInt8), (0 : UInt8), (0 : UInt8), (0 : UInt8), (0 : UInt8), (0 : UInt8), (0 : UInt8), (0 : UInt8)], ()))))) (some ((false, ()))))))
def g99 (N : Nat) : Sg := sgK [] [K.bool] fun x => p99 N
def tab99 : List (Nat × Head) := [
    ]
def env99 (N : Nat) : List (Nat × Sg) := [(101, g101 N), (103, g103 N), (102, g102 N), (104, g104 N)]
theorem env99_ok (N : Nat) : EnvOK Try.prog pd.els (env99 N) := ⟨g101_ok N, ⟨g103_ok N, ⟨g102_ok N, ⟨g104_ok N, trivial⟩⟩⟩⟩
theorem g99_ok (N : Nat) : SgOK Try.prog pd.els 99 (g99 N) :=
  sgK_ok pd_ok (env_look (env99_ok N)) Try.func99 (name_ne (by kernel_rfl)) [] [K.bool] _ N tab99 4 fun x => by kernel_rfl
end Go.Proofs.Ytgimohchocjgcaa.V
