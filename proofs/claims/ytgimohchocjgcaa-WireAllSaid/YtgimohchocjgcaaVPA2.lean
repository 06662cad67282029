import Derived.Test.YtgimohchocjgcaaVPA1
import Derived.Test.YtgimohchocjgcaaVGA3
import Derived.KernelRfl
set_option linter.unusedVariables false
set_option linter.unusedSimpArgs false
namespace Go.Proofs.Ytgimohchocjgcaa.V
def q204 (N : Nat) (log0 : Int) : Option (Bool × Unit) :=
  cond ((leI (1 : Int) log0)) (some (((leI log0 (6 : Int)), ()))) (some ((false, ())))
theorem p204_t : p204 = q204 := by
  (repeat (apply funext; intro _))
  simp only [p204, q204, hide_eq, fr_eta', eqL_frF, eqL_frl, zero_fr]
def q136 (N : Nat) (log0 : Int) (cell1 : Int) : Option (Fr × Int × Unit) :=
  Option.bind (q204 N log0) fun r0 => cond (!Prod.fst r0) (some ((Fr.zero, (1 : Int), ()))) (cond ((ltI cell1 (0 : Int))) (some ((Fr.zero, (1 : Int), ()))) (cond ((leI ((shlI (3 : Int) (UInt64.toNat ((u64I log0))))) cell1)) (some ((Fr.zero, (1 : Int), ()))) (Option.bind (q77 N log0) fun r1 => Option.bind (q75 N ((7 : UInt64))) fun r2 => must (!eqI ((shlI (1 : Int) (UInt64.toNat ((u64I log0))))) (0 : Int)) (Option.bind (q72 N ((Prod.fst r2)) ([(u64I ((wr (Int.tdiv cell1 ((shlI (1 : Int) (UInt64.toNat ((u64I log0)))))))))])) fun r3 => must (!eqI ((shlI (1 : Int) (UInt64.toNat ((u64I log0))))) (0 : Int)) (Option.bind (q72 N ((Prod.fst r1)) ([(u64I ((Int.tmod cell1 ((shlI (1 : Int) (UInt64.toNat ((u64I log0))))))))])) fun r4 => Option.bind (q76 N ((Prod.fst r3)) ((Prod.fst r4))) fun r5 => some (((Prod.fst r5), (0 : Int), ())))))))
theorem p136_t : p136 = q136 := by
  (repeat (apply funext; intro _))
  simp only [p136, q136, hide_eq, p204_t, p72_t, p75_t, p76_t, p77_t, fr_eta', eqL_frF, eqL_frl, zero_fr]
end Go.Proofs.Ytgimohchocjgcaa.V
