/- What the program's functions compute, as plain functions; each one's contract. Printed by a program of this work. -/
import Derived.Test.YtgimohchocjgcaaVFA1
import Derived.Test.YtgimohchocjgcaaVFW
import Derived.KernelRfl
set_option linter.unusedVariables false
set_option linter.unusedSimpArgs false
namespace Go.Proofs.Ytgimohchocjgcaa.V

def c15_10 (N : Nat) (A_10 : Int → Int → Fr → Option (Bool × Unit)) (log0 : Int) (i7 : Int) (ob0 : Fr) : Option (Bool × Unit) :=
  cond ((ltI i7 log0)) (Option.bind (q75 N ((1 : UInt64))) fun r1 => cond ((eqF ob0 (Prod.fst r1))) (some ((false, ()))) (Option.bind (q76 N (ob0) (ob0)) fun r2 => A_10 log0 ((wr (i7 + (1 : Int)))) ((Prod.fst r2)))) (Option.bind (q75 N ((1 : UInt64))) fun r0 => some (((eqF ob0 (Prod.fst r0)), ())))

theorem b15_10_t : b15_10 = c15_10 := by
  (repeat (apply funext; intro _))
  simp only [b15_10, c15_10, hide_eq, p75_t, p76_t, fr_eta', eqL_frF, eqL_frl]

def m15_10 (N : Nat) (n : Nat) (log0 : Int) (i7 : Int) (ob0 : Fr) : Option (Bool × Unit) :=
  loopN (fun A x => c15_10 N (fun log0 i7 ob0 => A ((log0, ((), (i7, ()))), (ob0, ()))) x.1.1 x.1.2.2.1 x.2.1) n ((log0, ((), (i7, ()))), (ob0, ()))

theorem l15_10_t : l15_10 = m15_10 := by
  (repeat (apply funext; intro _))
  simp only [l15_10, m15_10, b15_10_t, fr_eta', eqL_frF, eqL_frl]

theorem m15_10_zero (N : Nat) (log0 : Int) (i7 : Int) (ob0 : Fr) : m15_10 N 0 log0 i7 ob0 = none := rfl

theorem m15_10_succ (N : Nat) (n : Nat) (log0 : Int) (i7 : Int) (ob0 : Fr) : m15_10 N (n + 1) log0 i7 ob0 = c15_10 N (m15_10 N n) log0 i7 ob0 := rfl

def q15 (N : Nat) (log0 : Int) : Option (Bool × Unit) :=
  Option.bind (q68 N) fun r0 => cond (!Prod.fst r0) (some ((false, ()))) (Option.bind (q77 N log0) fun r1 => Option.bind (q78 N log0) fun r2 => cond (!eqI (Prod.fst (Prod.snd r1)) (Prod.fst (Prod.snd r2))) (some ((false, ()))) (cond (!eqF (Prod.fst r1) (Prod.fst r2)) (some ((false, ()))) (cond (!eqI (Prod.fst (Prod.snd r1)) (0 : Int)) (some ((true, ()))) (m15_10 N N log0 ((0 : Int)) ((Prod.fst r1))))))

theorem p15_t : p15 = q15 := by
  (repeat (apply funext; intro _))
  simp only [p15, q15, hide_eq, l15_10_t, p68_t, p77_t, p78_t, fr_eta', eqL_frF, eqL_frl]

end Go.Proofs.Ytgimohchocjgcaa.V
