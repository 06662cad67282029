import Derived.Test.YtgimohchocjgcaaVGA1
import Derived.Test.YtgimohchocjgcaaVFV
import Derived.KernelRfl
import Derived.Test.YtgimohchocjgcaaVUM
import Derived.Test.YtgimohchocjgcaaVLN
import Derived.Test.YtgimohchocjgcaaVLP
import Derived.Test.YtgimohchocjgcaaVLR
set_option linter.unusedVariables false
set_option linter.unusedSimpArgs false
namespace Go.Proofs.Ytgimohchocjgcaa.V
def c90_2 (N : Nat) (A_2 : (List Fr) → Int → Int → Option (Bool × Unit)) (l0 : List Fr) (most1 : Int) (i5 : Int) : Option (Bool × Unit) :=
  cond ((ltI i5 (↑(List.length l0) : Int))) (must (leI (0 : Int) i5 && ltI i5 (↑(List.length l0) : Int)) (Option.bind (q69 N ((List.getD l0 (Int.toNat i5) (Fr.zero)))) fun rr0 => cond (!Prod.fst rr0) (some ((false, ()))) (A_2 l0 most1 ((wr (i5 + (1 : Int))))))) (some (((leI (↑(List.length l0) : Int) most1), ())))
theorem b90_2_t : b90_2 = c90_2 := by
  (repeat (apply funext; intro _))
  simp only [b90_2, c90_2, hide_eq, p69_t, fr_eta', eqL_frF, eqL_frl, zero_fr]
def m90_2 (N : Nat) (n : Nat) (l0 : List Fr) (most1 : Int) (i5 : Int) : Option (Bool × Unit) :=
  loopN (fun A x => c90_2 N (fun l0 most1 i5 => A ((l0, (most1, (i5, ()))), ())) x.1.1 x.1.2.1 x.1.2.2.1) n ((l0, (most1, (i5, ()))), ())
theorem l90_2_t : l90_2 = m90_2 := by
  (repeat (apply funext; intro _))
  simp only [l90_2, m90_2, b90_2_t, fr_eta', eqL_frF, eqL_frl, zero_fr]
theorem m90_2_succ (N : Nat) (n : Nat) (l0 : List Fr) (most1 : Int) (i5 : Int) : m90_2 N (n + 1) l0 most1 i5 = c90_2 N (m90_2 N n) l0 most1 i5 := rfl
def q90 (N : Nat) (l0 : List Fr) (most1 : Int) : Option (Bool × Unit) :=
  m90_2 N N l0 most1 ((0 : Int))
theorem p90_t : p90 = q90 := by
  (repeat (apply funext; intro _))
  simp only [p90, q90, l90_2_t, fr_eta', eqL_frF, eqL_frl, zero_fr]
def q190 (N : Nat) (a0 : Fr) (b1 : Fr) : Option (Fr × Unit) :=
  Option.bind (q94 N (a0) (b1)) fun rr0 => some (((Prod.fst rr0), ()))
theorem p190_t : p190 = q190 := by
  (repeat (apply funext; intro _))
  simp only [p190, q190, p94_t, fr_eta', eqL_frF, eqL_frl, zero_fr]
end Go.Proofs.Ytgimohchocjgcaa.V
