import Derived.Test.YtgimohchocjgcaaVGA1
import Derived.Test.YtgimohchocjgcaaVFV
import Derived.KernelRfl
import Derived.Test.YtgimohchocjgcaaVUM
import Derived.Test.YtgimohchocjgcaaVLN
import Derived.Test.YtgimohchocjgcaaVLO
set_option linter.unusedVariables false
set_option linter.unusedSimpArgs false
namespace Go.Proofs.Ytgimohchocjgcaa.V
def q217 (N : Nat) (kind0 : Int) : Option (List Int × Bool × Unit) :=
  cond ((eqI kind0 (1 : Int))) (some (([], true, ()))) (cond ((eqI kind0 (2 : Int))) (cond ((eqI kind0 (2 : Int))) (some (([(0 : Int), (1 : Int), (2 : Int)], true, ()))) (cond ((eqI kind0 (3 : Int))) (cond ((eqI kind0 (3 : Int))) (some (([(0 : Int)], true, ()))) (cond ((eqI kind0 (4 : Int))) (some (([(0 : Int), (2 : Int)], true, ()))) (cond ((eqI kind0 (6 : Int))) (some (([(0 : Int), (1 : Int)], true, ()))) (some (([], false, ())))))) (cond ((eqI kind0 (7 : Int))) (some (([(0 : Int)], true, ()))) (cond ((eqI kind0 (4 : Int))) (some (([(0 : Int), (2 : Int)], true, ()))) (cond ((eqI kind0 (6 : Int))) (some (([(0 : Int), (1 : Int)], true, ()))) (some (([], false, ())))))))) (cond ((eqI kind0 (5 : Int))) (some (([(0 : Int), (1 : Int), (2 : Int)], true, ()))) (cond ((eqI kind0 (3 : Int))) (cond ((eqI kind0 (3 : Int))) (some (([(0 : Int)], true, ()))) (cond ((eqI kind0 (4 : Int))) (some (([(0 : Int), (2 : Int)], true, ()))) (cond ((eqI kind0 (6 : Int))) (some (([(0 : Int), (1 : Int)], true, ()))) (some (([], false, ())))))) (cond ((eqI kind0 (7 : Int))) (some (([(0 : Int)], true, ()))) (cond ((eqI kind0 (4 : Int))) (some (([(0 : Int), (2 : Int)], true, ()))) (cond ((eqI kind0 (6 : Int))) (some (([(0 : Int), (1 : Int)], true, ()))) (some (([], false, ())))))))))
theorem p217_t : p217 = q217 := by
  (repeat (apply funext; intro _))
  simp only [p217, q217, hide_eq, fr_eta', eqL_frF, eqL_frl, zero_fr]
def q193 (N : Nat) (a0 : Fr) : Option (Fr × Unit) :=
  Option.bind (q76 N (a0) (a0)) fun rr0 => Option.bind (q76 N ((Prod.fst rr0)) ((Prod.fst rr0))) fun rr1 => Option.bind (q76 N ((Prod.fst rr1)) (a0)) fun rr2 => some (((Prod.fst rr2), ()))
theorem p193_t : p193 = q193 := by
  (repeat (apply funext; intro _))
  simp only [p193, q193, p76_t, fr_eta', eqL_frF, eqL_frl, zero_fr]
def q195 (N : Nat) (at0 : Int) (w1 : List Int) : Option (Row × Unit) :=
  must (leI (↑(3 : Nat) : Int) (↑(List.length w1) : Int)) (must (leN ((0 : Nat) + (3 : Nat)) (List.length w1)) (Option.bind (q75 N ((1 : UInt64))) fun rr0 => cond (eqI at0 (↑(0 : Nat) : Int)) (must (eqI at0 (↑(0 : Nat) : Int)) (some ((Row.mk ((Prod.fst rr0)) (Fr.zero) (Fr.zero) (Fr.zero) (Fr.zero) (Fr.zero) (Fr.zero) (Fr.zero) (List.getD w1 (0 : Nat) (0 : Int)) (List.getD w1 ((0 : Nat) + (1 : Nat)) (0 : Int)) (List.getD w1 ((0 : Nat) + (1 : Nat) + (1 : Nat)) (0 : Int)), ())))) (cond (eqI at0 (↑((0 : Nat) + (1 : Nat)) : Int)) (must (eqI at0 (↑((0 : Nat) + (1 : Nat)) : Int)) (some ((Row.mk (Fr.zero) ((Prod.fst rr0)) (Fr.zero) (Fr.zero) (Fr.zero) (Fr.zero) (Fr.zero) (Fr.zero) (List.getD w1 (0 : Nat) (0 : Int)) (List.getD w1 ((0 : Nat) + (1 : Nat)) (0 : Int)) (List.getD w1 ((0 : Nat) + (1 : Nat) + (1 : Nat)) (0 : Int)), ())))) (cond (eqI at0 (↑((0 : Nat) + (1 : Nat) + (1 : Nat)) : Int)) (must (eqI at0 (↑((0 : Nat) + (1 : Nat) + (1 : Nat)) : Int)) (some ((Row.mk (Fr.zero) (Fr.zero) ((Prod.fst rr0)) (Fr.zero) (Fr.zero) (Fr.zero) (Fr.zero) (Fr.zero) (List.getD w1 (0 : Nat) (0 : Int)) (List.getD w1 ((0 : Nat) + (1 : Nat)) (0 : Int)) (List.getD w1 ((0 : Nat) + (1 : Nat) + (1 : Nat)) (0 : Int)), ())))) (cond (eqI at0 (↑((0 : Nat) + (1 : Nat) + (1 : Nat) + (1 : Nat)) : Int)) (must (eqI at0 (↑((0 : Nat) + (1 : Nat) + (1 : Nat) + (1 : Nat)) : Int)) (some ((Row.mk (Fr.zero) (Fr.zero) (Fr.zero) ((Prod.fst rr0)) (Fr.zero) (Fr.zero) (Fr.zero) (Fr.zero) (List.getD w1 (0 : Nat) (0 : Int)) (List.getD w1 ((0 : Nat) + (1 : Nat)) (0 : Int)) (List.getD w1 ((0 : Nat) + (1 : Nat) + (1 : Nat)) (0 : Int)), ())))) (cond (eqI at0 (↑((0 : Nat) + (1 : Nat) + (1 : Nat) + (1 : Nat) + (1 : Nat)) : Int)) (must (eqI at0 (↑((0 : Nat) + (1 : Nat) + (1 : Nat) + (1 : Nat) + (1 : Nat)) : Int)) (some ((Row.mk (Fr.zero) (Fr.zero) (Fr.zero) (Fr.zero) ((Prod.fst rr0)) (Fr.zero) (Fr.zero) (Fr.zero) (List.getD w1 (0 : Nat) (0 : Int)) (List.getD w1 ((0 : Nat) + (1 : Nat)) (0 : Int)) (List.getD w1 ((0 : Nat) + (1 : Nat) + (1 : Nat)) (0 : Int)), ())))) (cond (eqI at0 (↑((0 : Nat) + (1 : Nat) + (1 : Nat) + (1 : Nat) + (1 : Nat) + (1 : Nat)) : Int)) (must (eqI at0 (↑((0 : Nat) + (1 : Nat) + (1 : Nat) + (1 : Nat) + (1 : Nat) + (1 : Nat)) : Int)) (some ((Row.mk (Fr.zero) (Fr.zero) (Fr.zero) (Fr.zero) (Fr.zero) ((Prod.fst rr0)) (Fr.zero) (Fr.zero) (List.getD w1 (0 : Nat) (0 : Int)) (List.getD w1 ((0 : Nat) + (1 : Nat)) (0 : Int)) (List.getD w1 ((0 : Nat) + (1 : Nat) + (1 : Nat)) (0 : Int)), ())))) (cond (eqI at0 (↑((0 : Nat) + (1 : Nat) + (1 : Nat) + (1 : Nat) + (1 : Nat) + (1 : Nat) + (1 : Nat)) : Int)) (must (eqI at0 (↑((0 : Nat) + (1 : Nat) + (1 : Nat) + (1 : Nat) + (1 : Nat) + (1 : Nat) + (1 : Nat)) : Int)) (some ((Row.mk (Fr.zero) (Fr.zero) (Fr.zero) (Fr.zero) (Fr.zero) (Fr.zero) ((Prod.fst rr0)) (Fr.zero) (List.getD w1 (0 : Nat) (0 : Int)) (List.getD w1 ((0 : Nat) + (1 : Nat)) (0 : Int)) (List.getD w1 ((0 : Nat) + (1 : Nat) + (1 : Nat)) (0 : Int)), ())))) (must (eqI at0 (↑((0 : Nat) + (1 : Nat) + (1 : Nat) + (1 : Nat) + (1 : Nat) + (1 : Nat) + (1 : Nat) + (1 : Nat)) : Int)) (must (eqI at0 (↑((0 : Nat) + (1 : Nat) + (1 : Nat) + (1 : Nat) + (1 : Nat) + (1 : Nat) + (1 : Nat) + (1 : Nat)) : Int)) (some ((Row.mk (Fr.zero) (Fr.zero) (Fr.zero) (Fr.zero) (Fr.zero) (Fr.zero) (Fr.zero) ((Prod.fst rr0)) (List.getD w1 (0 : Nat) (0 : Int)) (List.getD w1 ((0 : Nat) + (1 : Nat)) (0 : Int)) (List.getD w1 ((0 : Nat) + (1 : Nat) + (1 : Nat)) (0 : Int)), ())))))))))))))
theorem p195_t : p195 = q195 := by
  (repeat (apply funext; intro _))
  simp only [p195, q195, p75_t, fr_eta', eqL_frF, eqL_frl, zero_fr]
def c106_4 (N : Nat) (A_4 : (List Fr) → Int → (List Fr) → Fr → Fr → Option (Fr × Unit)) (t37 : List Fr) (t38 : Int) (ob0 : List Fr) (ob1 : Fr) (ob2 : Fr) : Option (Fr × Unit) :=
  cond ((ltI t38 (8 : Int))) (must (leI (0 : Int) t38 && (ltI t38 (↑(8 : Nat) : Int) && ltI t38 (↑(List.length t37) : Int))) (must (leI (0 : Int) t38 && ltI t38 (↑(8 : Nat) : Int)) (Option.bind (q76 N ((List.getD ob0 (Int.toNat t38) (Fr.zero))) ((List.getD t37 (Int.toNat t38) (Fr.zero)))) fun rr0 => Option.bind (q80 N (ob2) ((Prod.fst rr0))) fun rr1 => A_4 t37 ((wr (t38 + (1 : Int)))) ob0 (ob1) ((Prod.fst rr1))))) (some ((ob2, ())))
theorem b106_4_t : b106_4 = c106_4 := by
  (repeat (apply funext; intro _))
  simp only [b106_4, c106_4, hide_eq, p76_t, p80_t, fr_eta', eqL_frF, eqL_frl, zero_fr]
def m106_4 (N : Nat) (n : Nat) (t37 : List Fr) (t38 : Int) (ob0 : List Fr) (ob1 : Fr) (ob2 : Fr) : Option (Fr × Unit) :=
  loopN (fun A x => c106_4 N (fun t37 t38 ob0 ob1 ob2 => A (((), ((), ((), (t37, (t38, ()))))), (ob0, (ob1, (ob2, ()))))) x.1.2.2.2.1 x.1.2.2.2.2.1 x.2.1 x.2.2.1 x.2.2.2.1) n (((), ((), ((), (t37, (t38, ()))))), (ob0, (ob1, (ob2, ()))))
theorem l106_4_t : l106_4 = m106_4 := by
  (repeat (apply funext; intro _))
  simp only [l106_4, m106_4, b106_4_t, fr_eta', eqL_frF, eqL_frl, zero_fr]
theorem m106_4_succ (N : Nat) (n : Nat) (t37 : List Fr) (t38 : Int) (ob0 : List Fr) (ob1 : Fr) (ob2 : Fr) : m106_4 N (n + 1) t37 t38 ob0 ob1 ob2 = c106_4 N (m106_4 N n) t37 t38 ob0 ob1 ob2 := rfl
def q106 (N : Nat) (q0 : List Fr) (a1 : Fr) (b2 : Fr) (c3 : Fr) (next4 : Fr) : Option (Fr × Unit) :=
  must (Nat.beq (List.length q0) (8 : Nat)) (Option.bind (q76 N (a1) (b2)) fun rr0 => Option.bind (q75 N ((1 : UInt64))) fun rr1 => Option.bind (q76 N (a1) (a1)) fun rr2 => Option.bind (q82 N ((Prod.fst rr2)) (a1)) fun rr3 => Option.bind (q193 N (a1)) fun rr4 => Option.bind (q82 N ((Prod.fst rr4)) (c3)) fun rr5 => Option.bind (q80 N (a1) (b2)) fun rr6 => Option.bind (q82 N ((Prod.fst rr6)) (next4)) fun rr7 => m106_4 N N ([(Prod.fst rr0), a1, b2, c3, (Prod.fst rr1), (Prod.fst rr3), (Prod.fst rr5), (Prod.fst rr7)]) ((0 : Int)) q0 (Fr.zero) (Fr.zero))
theorem p106_t : p106 = q106 := by
  (repeat (apply funext; intro _))
  simp only [p106, q106, l106_4_t, p193_t, p75_t, p76_t, p80_t, p82_t, fr_eta', eqL_frF, eqL_frl, zero_fr]
def q108 (N : Nat) (s0 : Stp) : Option (List Row × Int × Unit) :=
  cond ((eqI (Stp.kind s0) (1 : Int))) (cond ((eqI (Stp.kind s0) (1 : Int))) (some (([], (0 : Int), ()))) (cond ((eqI (Stp.kind s0) (2 : Int))) (some (([Row.mk ((Stp.q0 s0)) ((Stp.q1 s0)) ((Stp.q2 s0)) ((Stp.q3 s0)) ((Stp.q4 s0)) (Fr.zero) (Fr.zero) (Fr.zero) (mxI (Stp.v0 s0) (-1 : Int)) (mxI (Stp.v1 s0) (-1 : Int)) (mxI (Stp.v2 s0) (-1 : Int))], (0 : Int), ()))) (cond ((eqI (Stp.kind s0) (3 : Int))) (Option.bind (q195 N ((5 : Int)) ([Stp.v0 s0, (-1 : Int), (-1 : Int)])) fun rr7 => some (([(Prod.fst rr7)], (0 : Int), ()))) (cond ((eqI (Stp.kind s0) (4 : Int))) (Option.bind (q195 N ((6 : Int)) ([Stp.v0 s0, (-1 : Int), Stp.v2 s0])) fun rr6 => some (([(Prod.fst rr6)], (0 : Int), ()))) (cond ((eqI (Stp.kind s0) (5 : Int))) (Option.bind (q195 N ((7 : Int)) ([Stp.v0 s0, Stp.v1 s0, (-1 : Int)])) fun rr5 => some (([(Prod.fst rr5), Row.mk (Fr.zero) (Fr.zero) (Fr.zero) (Fr.zero) (Fr.zero) (Fr.zero) (Fr.zero) (Fr.zero) (Stp.v2 s0) (-1 : Int) (-1 : Int)], (0 : Int), ()))) (cond ((eqI (Stp.kind s0) (7 : Int))) (Option.bind (q195 N ((1 : Int)) ([Stp.v0 s0, (-1 : Int), (-1 : Int)])) fun rr4 => some (([(Prod.fst rr4)], (0 : Int), ()))) (some (([], (11 : Int), ()))))))))) (cond ((eqI (Stp.kind s0) (6 : Int))) (some (([], (0 : Int), ()))) (cond ((eqI (Stp.kind s0) (2 : Int))) (some (([Row.mk ((Stp.q0 s0)) ((Stp.q1 s0)) ((Stp.q2 s0)) ((Stp.q3 s0)) ((Stp.q4 s0)) (Fr.zero) (Fr.zero) (Fr.zero) (mxI (Stp.v0 s0) (-1 : Int)) (mxI (Stp.v1 s0) (-1 : Int)) (mxI (Stp.v2 s0) (-1 : Int))], (0 : Int), ()))) (cond ((eqI (Stp.kind s0) (3 : Int))) (Option.bind (q195 N ((5 : Int)) ([Stp.v0 s0, (-1 : Int), (-1 : Int)])) fun rr3 => some (([(Prod.fst rr3)], (0 : Int), ()))) (cond ((eqI (Stp.kind s0) (4 : Int))) (Option.bind (q195 N ((6 : Int)) ([Stp.v0 s0, (-1 : Int), Stp.v2 s0])) fun rr2 => some (([(Prod.fst rr2)], (0 : Int), ()))) (cond ((eqI (Stp.kind s0) (5 : Int))) (Option.bind (q195 N ((7 : Int)) ([Stp.v0 s0, Stp.v1 s0, (-1 : Int)])) fun rr1 => some (([(Prod.fst rr1), Row.mk (Fr.zero) (Fr.zero) (Fr.zero) (Fr.zero) (Fr.zero) (Fr.zero) (Fr.zero) (Fr.zero) (Stp.v2 s0) (-1 : Int) (-1 : Int)], (0 : Int), ()))) (cond ((eqI (Stp.kind s0) (7 : Int))) (Option.bind (q195 N ((1 : Int)) ([Stp.v0 s0, (-1 : Int), (-1 : Int)])) fun rr0 => some (([(Prod.fst rr0)], (0 : Int), ()))) (some (([], (11 : Int), ())))))))))
theorem p108_t : p108 = q108 := by
  (repeat (apply funext; intro _))
  simp only [p108, q108, hide_eq, p195_t, fr_eta', eqL_frF, eqL_frl, zero_fr]
def c192_11 (N : Nat) (A_11 : Int → Int → Int → Stp → (List Int) → Option (Int × Unit)) (vars1 : Int) (t30 : Int) (t31 : Int) (ob0 : Stp) (t29o : List Int) : Option (Int × Unit) :=
  cond ((ltI t31 t30)) (must (leI (0 : Int) t31 && ltI t31 (↑(List.length t29o) : Int)) (cond (eqI (List.getD t29o (Int.toNat t31) (0 : Int)) (↑(0 : Nat) : Int)) (must (eqI (List.getD t29o (Int.toNat t31) (0 : Int)) (↑(0 : Nat) : Int)) (cond ((leI vars1 (Stp.v0 ob0))) (some (((10 : Int), ()))) (cond ((ltI (Stp.v0 ob0) (0 : Int))) (cond (!eqI (Stp.kind ob0) (2 : Int)) (some (((10 : Int), ()))) (A_11 vars1 t30 ((wr (t31 + (1 : Int)))) (Stp.mk (Stp.kind ob0) (Stp.v0 ob0) (Stp.v1 ob0) (Stp.v2 ob0) ((Stp.q0 ob0)) ((Stp.q1 ob0)) ((Stp.q2 ob0)) ((Stp.q3 ob0)) ((Stp.q4 ob0))) t29o)) (A_11 vars1 t30 ((wr (t31 + (1 : Int)))) (Stp.mk (Stp.kind ob0) (Stp.v0 ob0) (Stp.v1 ob0) (Stp.v2 ob0) ((Stp.q0 ob0)) ((Stp.q1 ob0)) ((Stp.q2 ob0)) ((Stp.q3 ob0)) ((Stp.q4 ob0))) t29o)))) (cond (eqI (List.getD t29o (Int.toNat t31) (0 : Int)) (↑((0 : Nat) + (1 : Nat)) : Int)) (must (eqI (List.getD t29o (Int.toNat t31) (0 : Int)) (↑((0 : Nat) + (1 : Nat)) : Int)) (cond ((leI vars1 (Stp.v1 ob0))) (some (((10 : Int), ()))) (cond ((ltI (Stp.v1 ob0) (0 : Int))) (cond (!eqI (Stp.kind ob0) (2 : Int)) (some (((10 : Int), ()))) (A_11 vars1 t30 ((wr (t31 + (1 : Int)))) (Stp.mk (Stp.kind ob0) (Stp.v0 ob0) (Stp.v1 ob0) (Stp.v2 ob0) ((Stp.q0 ob0)) ((Stp.q1 ob0)) ((Stp.q2 ob0)) ((Stp.q3 ob0)) ((Stp.q4 ob0))) t29o)) (A_11 vars1 t30 ((wr (t31 + (1 : Int)))) (Stp.mk (Stp.kind ob0) (Stp.v0 ob0) (Stp.v1 ob0) (Stp.v2 ob0) ((Stp.q0 ob0)) ((Stp.q1 ob0)) ((Stp.q2 ob0)) ((Stp.q3 ob0)) ((Stp.q4 ob0))) t29o)))) (must (eqI (List.getD t29o (Int.toNat t31) (0 : Int)) (↑((0 : Nat) + (1 : Nat) + (1 : Nat)) : Int)) (must (eqI (List.getD t29o (Int.toNat t31) (0 : Int)) (↑((0 : Nat) + (1 : Nat) + (1 : Nat)) : Int)) (cond ((leI vars1 (Stp.v2 ob0))) (some (((10 : Int), ()))) (cond ((ltI (Stp.v2 ob0) (0 : Int))) (cond (!eqI (Stp.kind ob0) (2 : Int)) (some (((10 : Int), ()))) (A_11 vars1 t30 ((wr (t31 + (1 : Int)))) (Stp.mk (Stp.kind ob0) (Stp.v0 ob0) (Stp.v1 ob0) (Stp.v2 ob0) ((Stp.q0 ob0)) ((Stp.q1 ob0)) ((Stp.q2 ob0)) ((Stp.q3 ob0)) ((Stp.q4 ob0))) t29o)) (A_11 vars1 t30 ((wr (t31 + (1 : Int)))) (Stp.mk (Stp.kind ob0) (Stp.v0 ob0) (Stp.v1 ob0) (Stp.v2 ob0) ((Stp.q0 ob0)) ((Stp.q1 ob0)) ((Stp.q2 ob0)) ((Stp.q3 ob0)) ((Stp.q4 ob0))) t29o)))))))) (some (((0 : Int), ())))
theorem b192_11_t : b192_11 = c192_11 := by
  (repeat (apply funext; intro _))
  simp only [b192_11, c192_11, hide_eq, fr_eta', eqL_frF, eqL_frl, zero_fr]
def m192_11 (N : Nat) (n : Nat) (vars1 : Int) (t30 : Int) (t31 : Int) (ob0 : Stp) (t29o : List Int) : Option (Int × Unit) :=
  loopN (fun A x => c192_11 N (fun vars1 t30 t31 ob0 t29o => A ((vars1, ((), ((), (t30, (t31, ()))))), (ob0, (t29o, ())))) x.1.1 x.1.2.2.2.1 x.1.2.2.2.2.1 x.2.1 x.2.2.1) n ((vars1, ((), ((), (t30, (t31, ()))))), (ob0, (t29o, ())))
theorem l192_11_t : l192_11 = m192_11 := by
  (repeat (apply funext; intro _))
  simp only [l192_11, m192_11, b192_11_t, fr_eta', eqL_frF, eqL_frl, zero_fr]
def c192_5 (N : Nat) (A_5 : Int → (List Fr) → Int → Stp → (List Int) → Option (Int × Unit)) (vars1 : Int) (t21 : List Fr) (t22 : Int) (ob0 : Stp) (l5o : List Int) : Option (Int × Unit) :=
  cond ((ltI t22 (5 : Int))) (must (leI (0 : Int) t22 && (ltI t22 (↑(5 : Nat) : Int) && ltI t22 (↑(List.length t21) : Int))) (Option.bind (q79 N ((List.getD t21 (Int.toNat t22) (Fr.zero)))) fun rr0 => cond (!Prod.fst rr0) (some (((4 : Int), ()))) (A_5 vars1 t21 ((wr (t22 + (1 : Int)))) (Stp.mk (Stp.kind ob0) (Stp.v0 ob0) (Stp.v1 ob0) (Stp.v2 ob0) ((Stp.q0 ob0)) ((Stp.q1 ob0)) ((Stp.q2 ob0)) ((Stp.q3 ob0)) ((Stp.q4 ob0))) l5o))) (m192_11 N N vars1 ((↑(List.length l5o) : Int)) ((0 : Int)) (Stp.mk (Stp.kind ob0) (Stp.v0 ob0) (Stp.v1 ob0) (Stp.v2 ob0) ((Stp.q0 ob0)) ((Stp.q1 ob0)) ((Stp.q2 ob0)) ((Stp.q3 ob0)) ((Stp.q4 ob0))) l5o)
theorem b192_5_t : b192_5 = c192_5 := by
  (repeat (apply funext; intro _))
  simp only [b192_5, c192_5, hide_eq, l192_11_t, p79_t, fr_eta', eqL_frF, eqL_frl, zero_fr]
def m192_5 (N : Nat) (n : Nat) (vars1 : Int) (t21 : List Fr) (t22 : Int) (ob0 : Stp) (l5o : List Int) : Option (Int × Unit) :=
  loopN (fun A x => c192_5 N (fun vars1 t21 t22 ob0 l5o => A ((vars1, ((), ((), (t21, (t22, ()))))), (ob0, (l5o, ())))) x.1.1 x.1.2.2.2.1 x.1.2.2.2.2.1 x.2.1 x.2.2.1) n ((vars1, ((), ((), (t21, (t22, ()))))), (ob0, (l5o, ())))
theorem l192_5_t : l192_5 = m192_5 := by
  (repeat (apply funext; intro _))
  simp only [l192_5, m192_5, b192_5_t, fr_eta', eqL_frF, eqL_frl, zero_fr]
def q192 (N : Nat) (s0 : Stp) (vars1 : Int) : Option (Int × Unit) :=
  Option.bind (q217 N (Stp.kind s0)) fun rr0 => cond (!Prod.fst (Prod.snd rr0)) (some (((11 : Int), ()))) (m192_5 N N vars1 ([(Stp.q0 s0), (Stp.q1 s0), (Stp.q2 s0), (Stp.q3 s0), (Stp.q4 s0)]) ((0 : Int)) (Stp.mk (Stp.kind s0) (Stp.v0 s0) (Stp.v1 s0) (Stp.v2 s0) ((Stp.q0 s0)) ((Stp.q1 s0)) ((Stp.q2 s0)) ((Stp.q3 s0)) ((Stp.q4 s0))) (Prod.fst rr0))
theorem p192_t : p192 = q192 := by
  (repeat (apply funext; intro _))
  simp only [p192, q192, hide_eq, l192_5_t, p217_t, fr_eta', eqL_frF, eqL_frl, zero_fr]
def q105 (N : Nat) : Option (Bool × Unit) :=
  Option.bind (q108 N (Stp.mk (5 : Int) (1 : Int) (2 : Int) (3 : Int) (Fr.zero) (Fr.zero) (Fr.zero) (Fr.zero) (Fr.zero))) fun rr0 => Option.bind (q106 N (setL [Fr.zero, Fr.zero, Fr.zero, Fr.zero, Fr.zero, Fr.zero, Fr.zero, Fr.zero] (5 : Nat) (Fr.mk (1 : UInt64) (0 : UInt64) (0 : UInt64) (0 : UInt64))) (Fr.mk (2 : UInt64) (0 : UInt64) (0 : UInt64) (0 : UInt64)) (Fr.zero) (Fr.zero) (Fr.zero)) fun rr1 => cond ((eqF (Prod.fst rr1) (Fr.mk (2 : UInt64) 0 0 0))) (cond ((eqI (Prod.fst (Prod.snd rr0)) (0 : Int))) (cond ((eqI (↑(List.length (Prod.fst rr0)) : Int) (2 : Int))) (Option.bind (q192 N (Stp.mk (3 : Int) (0 : Int) (0 : Int) (0 : Int) (Fr.zero) (Fr.zero) (Fr.zero) (Fr.zero) (Fr.zero)) ((0 : Int))) fun rr2 => some (((eqI (Prod.fst rr2) (10 : Int)), ()))) (some ((false, ())))) (some ((false, ())))) (some ((false, ())))
theorem p105_t : p105 = q105 := by
  (repeat (apply funext; intro _))
  simp only [p105, q105, hide_eq, p106_t, p108_t, p192_t, fr_eta', eqL_frF, eqL_frl, zero_fr]
def c90_2 (N : Nat) (A_2 : (List Fr) → Int → Int → Option (Bool × Unit)) (l0 : List Fr) (most1 : Int) (i5 : Int) : Option (Bool × Unit) :=
  cond ((ltI i5 (↑(List.length l0) : Int))) (must (leI (0 : Int) i5 && ltI i5 (↑(List.length l0) : Int)) (Option.bind (q69 N ((List.getD l0 (Int.toNat i5) (Fr.zero)))) fun rr0 => cond (!Prod.fst rr0) (some ((false, ()))) (A_2 l0 most1 ((wr (i5 + (1 : Int))))))) (some (((leI (↑(List.length l0) : Int) most1), ())))
theorem b90_2_t : b90_2 = c90_2 := by
  (repeat (apply funext; intro _))
  simp only [b90_2, c90_2, hide_eq, p69_t, fr_eta', eqL_frF, eqL_frl, zero_fr]
def m90_2 (N : Nat) (n : Nat) (l0 : List Fr) (most1 : Int) (i5 : Int) : Option (Bool × Unit) :=
  loopN (fun A x => c90_2 N (fun l0 most1 i5 => A ((l0, (most1, (i5, ()))), ())) x.1.1 x.1.2.1 x.1.2.2.1) n ((l0, (most1, (i5, ()))), ())
theorem l90_2_t : l90_2 = m90_2 := by
  (repeat (apply funext; intro _))
  simp only [l90_2, m90_2, b90_2_t, fr_eta', eqL_frF, eqL_frl, zero_fr]
theorem m90_2_succ (N : Nat) (n : Nat) (l0 : List Fr) (most1 : Int) (i5 : Int) : m90_2 N (n + 1) l0 most1 i5 = c90_2 N (m90_2 N n) l0 most1 i5 := rfl
def q90 (N : Nat) (l0 : List Fr) (most1 : Int) : Option (Bool × Unit) :=
  m90_2 N N l0 most1 ((0 : Int))
theorem p90_t : p90 = q90 := by
  (repeat (apply funext; intro _))
  simp only [p90, q90, l90_2_t, fr_eta', eqL_frF, eqL_frl, zero_fr]
end Go.Proofs.Ytgimohchocjgcaa.V
