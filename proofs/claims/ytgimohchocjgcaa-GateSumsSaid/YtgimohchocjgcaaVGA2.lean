/- What the program's functions compute, as plain functions; each one's contract. Printed by a program of this work. -/
import Derived.Test.YtgimohchocjgcaaVGA1
import Derived.Test.YtgimohchocjgcaaVFW
import Derived.KernelRfl
set_option linter.unusedVariables false
set_option linter.unusedSimpArgs false
namespace Go.Proofs.Ytgimohchocjgcaa.V

def q217 (N : Nat) (kind0 : Int) : Option (List Int × Bool × Unit) :=
  cond ((eqI kind0 (1 : Int))) (some (([], true, ()))) (cond ((eqI kind0 (2 : Int))) (cond ((eqI kind0 (2 : Int))) (some (([(0 : Int), (1 : Int), (2 : Int)], true, ()))) (cond ((eqI kind0 (3 : Int))) (cond ((eqI kind0 (3 : Int))) (some (([(0 : Int)], true, ()))) (cond ((eqI kind0 (4 : Int))) (some (([(0 : Int), (2 : Int)], true, ()))) (cond ((eqI kind0 (6 : Int))) (some (([(0 : Int), (1 : Int)], true, ()))) (some (([], false, ())))))) (cond ((eqI kind0 (7 : Int))) (some (([(0 : Int)], true, ()))) (cond ((eqI kind0 (4 : Int))) (some (([(0 : Int), (2 : Int)], true, ()))) (cond ((eqI kind0 (6 : Int))) (some (([(0 : Int), (1 : Int)], true, ()))) (some (([], false, ())))))))) (cond ((eqI kind0 (5 : Int))) (some (([(0 : Int), (1 : Int), (2 : Int)], true, ()))) (cond ((eqI kind0 (3 : Int))) (cond ((eqI kind0 (3 : Int))) (some (([(0 : Int)], true, ()))) (cond ((eqI kind0 (4 : Int))) (some (([(0 : Int), (2 : Int)], true, ()))) (cond ((eqI kind0 (6 : Int))) (some (([(0 : Int), (1 : Int)], true, ()))) (some (([], false, ())))))) (cond ((eqI kind0 (7 : Int))) (some (([(0 : Int)], true, ()))) (cond ((eqI kind0 (4 : Int))) (some (([(0 : Int), (2 : Int)], true, ()))) (cond ((eqI kind0 (6 : Int))) (some (([(0 : Int), (1 : Int)], true, ()))) (some (([], false, ())))))))))

theorem p217_t : p217 = q217 := by
  (repeat (apply funext; intro _))
  simp only [p217, q217, hide_eq, fr_eta', eqL_frF, eqL_frl, zero_fr]

def q193 (N : Nat) (a0 : Fr) : Option (Fr × Unit) :=
  Option.bind (q76 N (a0) (a0)) fun r0 => Option.bind (q76 N ((Prod.fst r0)) ((Prod.fst r0))) fun r1 => Option.bind (q76 N ((Prod.fst r1)) (a0)) fun r2 => some (((Prod.fst r2), ()))

theorem p193_t : p193 = q193 := by
  (repeat (apply funext; intro _))
  simp only [p193, q193, p76_t, fr_eta', eqL_frF, eqL_frl, zero_fr]

def q195 (N : Nat) (at0 : Int) (w1 : List Int) : Option (Row × Unit) :=
  must (leI (↑(3 : Nat) : Int) (↑(List.length w1) : Int)) (must (leN ((0 : Nat) + (3 : Nat)) (List.length w1)) (Option.bind (q75 N ((1 : UInt64))) fun r0 => cond (eqI at0 (↑(0 : Nat) : Int)) (must (eqI at0 (↑(0 : Nat) : Int)) (some (({ q0 := (Prod.fst r0), q1 := Fr.zero, q2 := Fr.zero, q3 := Fr.zero, q4 := Fr.zero, q5 := Fr.zero, q6 := Fr.zero, q7 := Fr.zero, w0 := List.getD w1 (0 : Nat) (0 : Int), w1 := List.getD w1 ((0 : Nat) + (1 : Nat)) (0 : Int), w2 := List.getD w1 ((0 : Nat) + (1 : Nat) + (1 : Nat)) (0 : Int) }, ())))) (cond (eqI at0 (↑((0 : Nat) + (1 : Nat)) : Int)) (must (eqI at0 (↑((0 : Nat) + (1 : Nat)) : Int)) (some (({ q0 := Fr.zero, q1 := (Prod.fst r0), q2 := Fr.zero, q3 := Fr.zero, q4 := Fr.zero, q5 := Fr.zero, q6 := Fr.zero, q7 := Fr.zero, w0 := List.getD w1 (0 : Nat) (0 : Int), w1 := List.getD w1 ((0 : Nat) + (1 : Nat)) (0 : Int), w2 := List.getD w1 ((0 : Nat) + (1 : Nat) + (1 : Nat)) (0 : Int) }, ())))) (cond (eqI at0 (↑((0 : Nat) + (1 : Nat) + (1 : Nat)) : Int)) (must (eqI at0 (↑((0 : Nat) + (1 : Nat) + (1 : Nat)) : Int)) (some (({ q0 := Fr.zero, q1 := Fr.zero, q2 := (Prod.fst r0), q3 := Fr.zero, q4 := Fr.zero, q5 := Fr.zero, q6 := Fr.zero, q7 := Fr.zero, w0 := List.getD w1 (0 : Nat) (0 : Int), w1 := List.getD w1 ((0 : Nat) + (1 : Nat)) (0 : Int), w2 := List.getD w1 ((0 : Nat) + (1 : Nat) + (1 : Nat)) (0 : Int) }, ())))) (cond (eqI at0 (↑((0 : Nat) + (1 : Nat) + (1 : Nat) + (1 : Nat)) : Int)) (must (eqI at0 (↑((0 : Nat) + (1 : Nat) + (1 : Nat) + (1 : Nat)) : Int)) (some (({ q0 := Fr.zero, q1 := Fr.zero, q2 := Fr.zero, q3 := (Prod.fst r0), q4 := Fr.zero, q5 := Fr.zero, q6 := Fr.zero, q7 := Fr.zero, w0 := List.getD w1 (0 : Nat) (0 : Int), w1 := List.getD w1 ((0 : Nat) + (1 : Nat)) (0 : Int), w2 := List.getD w1 ((0 : Nat) + (1 : Nat) + (1 : Nat)) (0 : Int) }, ())))) (cond (eqI at0 (↑((0 : Nat) + (1 : Nat) + (1 : Nat) + (1 : Nat) + (1 : Nat)) : Int)) (must (eqI at0 (↑((0 : Nat) + (1 : Nat) + (1 : Nat) + (1 : Nat) + (1 : Nat)) : Int)) (some (({ q0 := Fr.zero, q1 := Fr.zero, q2 := Fr.zero, q3 := Fr.zero, q4 := (Prod.fst r0), q5 := Fr.zero, q6 := Fr.zero, q7 := Fr.zero, w0 := List.getD w1 (0 : Nat) (0 : Int), w1 := List.getD w1 ((0 : Nat) + (1 : Nat)) (0 : Int), w2 := List.getD w1 ((0 : Nat) + (1 : Nat) + (1 : Nat)) (0 : Int) }, ())))) (cond (eqI at0 (↑((0 : Nat) + (1 : Nat) + (1 : Nat) + (1 : Nat) + (1 : Nat) + (1 : Nat)) : Int)) (must (eqI at0 (↑((0 : Nat) + (1 : Nat) + (1 : Nat) + (1 : Nat) + (1 : Nat) + (1 : Nat)) : Int)) (some (({ q0 := Fr.zero, q1 := Fr.zero, q2 := Fr.zero, q3 := Fr.zero, q4 := Fr.zero, q5 := (Prod.fst r0), q6 := Fr.zero, q7 := Fr.zero, w0 := List.getD w1 (0 : Nat) (0 : Int), w1 := List.getD w1 ((0 : Nat) + (1 : Nat)) (0 : Int), w2 := List.getD w1 ((0 : Nat) + (1 : Nat) + (1 : Nat)) (0 : Int) }, ())))) (cond (eqI at0 (↑((0 : Nat) + (1 : Nat) + (1 : Nat) + (1 : Nat) + (1 : Nat) + (1 : Nat) + (1 : Nat)) : Int)) (must (eqI at0 (↑((0 : Nat) + (1 : Nat) + (1 : Nat) + (1 : Nat) + (1 : Nat) + (1 : Nat) + (1 : Nat)) : Int)) (some (({ q0 := Fr.zero, q1 := Fr.zero, q2 := Fr.zero, q3 := Fr.zero, q4 := Fr.zero, q5 := Fr.zero, q6 := (Prod.fst r0), q7 := Fr.zero, w0 := List.getD w1 (0 : Nat) (0 : Int), w1 := List.getD w1 ((0 : Nat) + (1 : Nat)) (0 : Int), w2 := List.getD w1 ((0 : Nat) + (1 : Nat) + (1 : Nat)) (0 : Int) }, ())))) (must (eqI at0 (↑((0 : Nat) + (1 : Nat) + (1 : Nat) + (1 : Nat) + (1 : Nat) + (1 : Nat) + (1 : Nat) + (1 : Nat)) : Int)) (must (eqI at0 (↑((0 : Nat) + (1 : Nat) + (1 : Nat) + (1 : Nat) + (1 : Nat) + (1 : Nat) + (1 : Nat) + (1 : Nat)) : Int)) (some (({ q0 := Fr.zero, q1 := Fr.zero, q2 := Fr.zero, q3 := Fr.zero, q4 := Fr.zero, q5 := Fr.zero, q6 := Fr.zero, q7 := (Prod.fst r0), w0 := List.getD w1 (0 : Nat) (0 : Int), w1 := List.getD w1 ((0 : Nat) + (1 : Nat)) (0 : Int), w2 := List.getD w1 ((0 : Nat) + (1 : Nat) + (1 : Nat)) (0 : Int) }, ())))))))))))))

theorem p195_t : p195 = q195 := by
  (repeat (apply funext; intro _))
  simp only [p195, q195, p75_t, fr_eta', eqL_frF, eqL_frl, zero_fr]

def c106_4 (N : Nat) (A_4 : (List Fr) → Int → (List Fr) → Fr → Fr → Option (Fr × Unit)) (t37 : List Fr) (t38 : Int) (ob0 : List Fr) (ob1 : Fr) (ob2 : Fr) : Option (Fr × Unit) :=
  cond ((ltI t38 (8 : Int))) (must (leI (0 : Int) t38 && (ltI t38 (↑(8 : Nat) : Int) && ltI t38 (↑(List.length t37) : Int))) (must (leI (0 : Int) t38 && ltI t38 (↑(8 : Nat) : Int)) (Option.bind (q76 N ((List.getD ob0 (Int.toNat t38) Fr.zero)) ((List.getD t37 (Int.toNat t38) Fr.zero))) fun r0 => Option.bind (q80 N (ob2) ((Prod.fst r0))) fun r1 => A_4 t37 ((wr (t38 + (1 : Int)))) ob0 (ob1) ((Prod.fst r1))))) (some ((ob2, ())))

theorem b106_4_t : b106_4 = c106_4 := by
  (repeat (apply funext; intro _))
  simp only [b106_4, c106_4, hide_eq, p76_t, p80_t, fr_eta', eqL_frF, eqL_frl, zero_fr]

def m106_4 (N : Nat) (n : Nat) (t37 : List Fr) (t38 : Int) (ob0 : List Fr) (ob1 : Fr) (ob2 : Fr) : Option (Fr × Unit) :=
  loopN (fun A x => c106_4 N (fun t37 t38 ob0 ob1 ob2 => A (((), ((), ((), (t37, (t38, ()))))), (ob0, (ob1, (ob2, ()))))) x.1.2.2.2.1 x.1.2.2.2.2.1 x.2.1 x.2.2.1 x.2.2.2.1) n (((), ((), ((), (t37, (t38, ()))))), (ob0, (ob1, (ob2, ()))))

theorem l106_4_t : l106_4 = m106_4 := by
  (repeat (apply funext; intro _))
  simp only [l106_4, m106_4, b106_4_t, fr_eta', eqL_frF, eqL_frl, zero_fr]

theorem m106_4_zero (N : Nat) (t37 : List Fr) (t38 : Int) (ob0 : List Fr) (ob1 : Fr) (ob2 : Fr) : m106_4 N 0 t37 t38 ob0 ob1 ob2 = none := rfl

theorem m106_4_succ (N : Nat) (n : Nat) (t37 : List Fr) (t38 : Int) (ob0 : List Fr) (ob1 : Fr) (ob2 : Fr) : m106_4 N (n + 1) t37 t38 ob0 ob1 ob2 = c106_4 N (m106_4 N n) t37 t38 ob0 ob1 ob2 := rfl

def q106 (N : Nat) (q0 : List Fr) (a1 : Fr) (b2 : Fr) (c3 : Fr) (next4 : Fr) : Option (Fr × Unit) :=
  must (Nat.beq (List.length q0) (8 : Nat)) (Option.bind (q76 N (a1) (b2)) fun r0 => Option.bind (q75 N ((1 : UInt64))) fun r1 => Option.bind (q76 N (a1) (a1)) fun r2 => Option.bind (q82 N ((Prod.fst r2)) (a1)) fun r3 => Option.bind (q193 N (a1)) fun r4 => Option.bind (q82 N ((Prod.fst r4)) (c3)) fun r5 => Option.bind (q80 N (a1) (b2)) fun r6 => Option.bind (q82 N ((Prod.fst r6)) (next4)) fun r7 => m106_4 N N ([(Prod.fst r0), a1, b2, c3, (Prod.fst r1), (Prod.fst r3), (Prod.fst r5), (Prod.fst r7)]) ((0 : Int)) q0 (Fr.zero) (Fr.zero))

theorem p106_t : p106 = q106 := by
  (repeat (apply funext; intro _))
  simp only [p106, q106, l106_4_t, p193_t, p75_t, p76_t, p80_t, p82_t, fr_eta', eqL_frF, eqL_frl, zero_fr]

def q108 (N : Nat) (s0 : Stp) : Option (List Row × Int × Unit) :=
  cond ((eqI (Stp.kind s0) (1 : Int))) (cond ((eqI (Stp.kind s0) (1 : Int))) (some (([], (0 : Int), ()))) (cond ((eqI (Stp.kind s0) (2 : Int))) (none) (cond ((eqI (Stp.kind s0) (3 : Int))) (Option.bind (q195 N ((5 : Int)) ([Stp.v0 s0, (-1 : Int), (-1 : Int)])) fun r7 => some (([{ q0 := (Row.q0 (Prod.fst r7)), q1 := (Row.q1 (Prod.fst r7)), q2 := (Row.q2 (Prod.fst r7)), q3 := (Row.q3 (Prod.fst r7)), q4 := (Row.q4 (Prod.fst r7)), q5 := (Row.q5 (Prod.fst r7)), q6 := (Row.q6 (Prod.fst r7)), q7 := (Row.q7 (Prod.fst r7)), w0 := Row.w0 (Prod.fst r7), w1 := Row.w1 (Prod.fst r7), w2 := Row.w2 (Prod.fst r7) }], (0 : Int), ()))) (cond ((eqI (Stp.kind s0) (4 : Int))) (Option.bind (q195 N ((6 : Int)) ([Stp.v0 s0, (-1 : Int), Stp.v2 s0])) fun r6 => some (([{ q0 := (Row.q0 (Prod.fst r6)), q1 := (Row.q1 (Prod.fst r6)), q2 := (Row.q2 (Prod.fst r6)), q3 := (Row.q3 (Prod.fst r6)), q4 := (Row.q4 (Prod.fst r6)), q5 := (Row.q5 (Prod.fst r6)), q6 := (Row.q6 (Prod.fst r6)), q7 := (Row.q7 (Prod.fst r6)), w0 := Row.w0 (Prod.fst r6), w1 := Row.w1 (Prod.fst r6), w2 := Row.w2 (Prod.fst r6) }], (0 : Int), ()))) (cond ((eqI (Stp.kind s0) (5 : Int))) (Option.bind (q195 N ((7 : Int)) ([Stp.v0 s0, Stp.v1 s0, (-1 : Int)])) fun r5 => some (([{ q0 := (Row.q0 (Prod.fst r5)), q1 := (Row.q1 (Prod.fst r5)), q2 := (Row.q2 (Prod.fst r5)), q3 := (Row.q3 (Prod.fst r5)), q4 := (Row.q4 (Prod.fst r5)), q5 := (Row.q5 (Prod.fst r5)), q6 := (Row.q6 (Prod.fst r5)), q7 := (Row.q7 (Prod.fst r5)), w0 := Row.w0 (Prod.fst r5), w1 := Row.w1 (Prod.fst r5), w2 := Row.w2 (Prod.fst r5) }, { q0 := Fr.zero, q1 := Fr.zero, q2 := Fr.zero, q3 := Fr.zero, q4 := Fr.zero, q5 := Fr.zero, q6 := Fr.zero, q7 := Fr.zero, w0 := Stp.v2 s0, w1 := (-1 : Int), w2 := (-1 : Int) }], (0 : Int), ()))) (cond ((eqI (Stp.kind s0) (7 : Int))) (Option.bind (q195 N ((1 : Int)) ([Stp.v0 s0, (-1 : Int), (-1 : Int)])) fun r4 => some (([{ q0 := (Row.q0 (Prod.fst r4)), q1 := (Row.q1 (Prod.fst r4)), q2 := (Row.q2 (Prod.fst r4)), q3 := (Row.q3 (Prod.fst r4)), q4 := (Row.q4 (Prod.fst r4)), q5 := (Row.q5 (Prod.fst r4)), q6 := (Row.q6 (Prod.fst r4)), q7 := (Row.q7 (Prod.fst r4)), w0 := Row.w0 (Prod.fst r4), w1 := Row.w1 (Prod.fst r4), w2 := Row.w2 (Prod.fst r4) }], (0 : Int), ()))) (some (([], (11 : Int), ()))))))))) (cond ((eqI (Stp.kind s0) (6 : Int))) (some (([], (0 : Int), ()))) (cond ((eqI (Stp.kind s0) (2 : Int))) (none) (cond ((eqI (Stp.kind s0) (3 : Int))) (Option.bind (q195 N ((5 : Int)) ([Stp.v0 s0, (-1 : Int), (-1 : Int)])) fun r3 => some (([{ q0 := (Row.q0 (Prod.fst r3)), q1 := (Row.q1 (Prod.fst r3)), q2 := (Row.q2 (Prod.fst r3)), q3 := (Row.q3 (Prod.fst r3)), q4 := (Row.q4 (Prod.fst r3)), q5 := (Row.q5 (Prod.fst r3)), q6 := (Row.q6 (Prod.fst r3)), q7 := (Row.q7 (Prod.fst r3)), w0 := Row.w0 (Prod.fst r3), w1 := Row.w1 (Prod.fst r3), w2 := Row.w2 (Prod.fst r3) }], (0 : Int), ()))) (cond ((eqI (Stp.kind s0) (4 : Int))) (Option.bind (q195 N ((6 : Int)) ([Stp.v0 s0, (-1 : Int), Stp.v2 s0])) fun r2 => some (([{ q0 := (Row.q0 (Prod.fst r2)), q1 := (Row.q1 (Prod.fst r2)), q2 := (Row.q2 (Prod.fst r2)), q3 := (Row.q3 (Prod.fst r2)), q4 := (Row.q4 (Prod.fst r2)), q5 := (Row.q5 (Prod.fst r2)), q6 := (Row.q6 (Prod.fst r2)), q7 := (Row.q7 (Prod.fst r2)), w0 := Row.w0 (Prod.fst r2), w1 := Row.w1 (Prod.fst r2), w2 := Row.w2 (Prod.fst r2) }], (0 : Int), ()))) (cond ((eqI (Stp.kind s0) (5 : Int))) (Option.bind (q195 N ((7 : Int)) ([Stp.v0 s0, Stp.v1 s0, (-1 : Int)])) fun r1 => some (([{ q0 := (Row.q0 (Prod.fst r1)), q1 := (Row.q1 (Prod.fst r1)), q2 := (Row.q2 (Prod.fst r1)), q3 := (Row.q3 (Prod.fst r1)), q4 := (Row.q4 (Prod.fst r1)), q5 := (Row.q5 (Prod.fst r1)), q6 := (Row.q6 (Prod.fst r1)), q7 := (Row.q7 (Prod.fst r1)), w0 := Row.w0 (Prod.fst r1), w1 := Row.w1 (Prod.fst r1), w2 := Row.w2 (Prod.fst r1) }, { q0 := Fr.zero, q1 := Fr.zero, q2 := Fr.zero, q3 := Fr.zero, q4 := Fr.zero, q5 := Fr.zero, q6 := Fr.zero, q7 := Fr.zero, w0 := Stp.v2 s0, w1 := (-1 : Int), w2 := (-1 : Int) }], (0 : Int), ()))) (cond ((eqI (Stp.kind s0) (7 : Int))) (Option.bind (q195 N ((1 : Int)) ([Stp.v0 s0, (-1 : Int), (-1 : Int)])) fun r0 => some (([{ q0 := (Row.q0 (Prod.fst r0)), q1 := (Row.q1 (Prod.fst r0)), q2 := (Row.q2 (Prod.fst r0)), q3 := (Row.q3 (Prod.fst r0)), q4 := (Row.q4 (Prod.fst r0)), q5 := (Row.q5 (Prod.fst r0)), q6 := (Row.q6 (Prod.fst r0)), q7 := (Row.q7 (Prod.fst r0)), w0 := Row.w0 (Prod.fst r0), w1 := Row.w1 (Prod.fst r0), w2 := Row.w2 (Prod.fst r0) }], (0 : Int), ()))) (some (([], (11 : Int), ())))))))))

theorem p108_t : p108 = q108 := by
  (repeat (apply funext; intro _))
  simp only [p108, q108, hide_eq, p195_t, fr_eta', eqL_frF, eqL_frl, zero_fr]

def c192_11 (N : Nat) (A_11 : Int → Int → Int → Stp → (List Int) → Option (Int × Unit)) (vars1 : Int) (t30 : Int) (t31 : Int) (ob0 : Stp) (t29o : List Int) : Option (Int × Unit) :=
  cond ((ltI t31 t30)) (must (leI (0 : Int) t31 && ltI t31 (↑(List.length t29o) : Int)) (cond (eqI (List.getD t29o (Int.toNat t31) (0 : Int)) (↑(0 : Nat) : Int)) (must (eqI (List.getD t29o (Int.toNat t31) (0 : Int)) (↑(0 : Nat) : Int)) (cond ((leI vars1 (Stp.v0 ob0))) (some (((10 : Int), ()))) (cond ((ltI (Stp.v0 ob0) (0 : Int))) (cond (!eqI (Stp.kind ob0) (2 : Int)) (some (((10 : Int), ()))) (A_11 vars1 t30 ((wr (t31 + (1 : Int)))) ({ kind := Stp.kind ob0, v0 := Stp.v0 ob0, v1 := Stp.v1 ob0, v2 := Stp.v2 ob0, q0 := (Stp.q0 ob0), q1 := (Stp.q1 ob0), q2 := (Stp.q2 ob0), q3 := (Stp.q3 ob0), q4 := (Stp.q4 ob0) }) t29o)) (A_11 vars1 t30 ((wr (t31 + (1 : Int)))) ({ kind := Stp.kind ob0, v0 := Stp.v0 ob0, v1 := Stp.v1 ob0, v2 := Stp.v2 ob0, q0 := (Stp.q0 ob0), q1 := (Stp.q1 ob0), q2 := (Stp.q2 ob0), q3 := (Stp.q3 ob0), q4 := (Stp.q4 ob0) }) t29o)))) (cond (eqI (List.getD t29o (Int.toNat t31) (0 : Int)) (↑((0 : Nat) + (1 : Nat)) : Int)) (must (eqI (List.getD t29o (Int.toNat t31) (0 : Int)) (↑((0 : Nat) + (1 : Nat)) : Int)) (cond ((leI vars1 (Stp.v1 ob0))) (some (((10 : Int), ()))) (cond ((ltI (Stp.v1 ob0) (0 : Int))) (cond (!eqI (Stp.kind ob0) (2 : Int)) (some (((10 : Int), ()))) (A_11 vars1 t30 ((wr (t31 + (1 : Int)))) ({ kind := Stp.kind ob0, v0 := Stp.v0 ob0, v1 := Stp.v1 ob0, v2 := Stp.v2 ob0, q0 := (Stp.q0 ob0), q1 := (Stp.q1 ob0), q2 := (Stp.q2 ob0), q3 := (Stp.q3 ob0), q4 := (Stp.q4 ob0) }) t29o)) (A_11 vars1 t30 ((wr (t31 + (1 : Int)))) ({ kind := Stp.kind ob0, v0 := Stp.v0 ob0, v1 := Stp.v1 ob0, v2 := Stp.v2 ob0, q0 := (Stp.q0 ob0), q1 := (Stp.q1 ob0), q2 := (Stp.q2 ob0), q3 := (Stp.q3 ob0), q4 := (Stp.q4 ob0) }) t29o)))) (must (eqI (List.getD t29o (Int.toNat t31) (0 : Int)) (↑((0 : Nat) + (1 : Nat) + (1 : Nat)) : Int)) (must (eqI (List.getD t29o (Int.toNat t31) (0 : Int)) (↑((0 : Nat) + (1 : Nat) + (1 : Nat)) : Int)) (cond ((leI vars1 (Stp.v2 ob0))) (some (((10 : Int), ()))) (cond ((ltI (Stp.v2 ob0) (0 : Int))) (cond (!eqI (Stp.kind ob0) (2 : Int)) (some (((10 : Int), ()))) (A_11 vars1 t30 ((wr (t31 + (1 : Int)))) ({ kind := Stp.kind ob0, v0 := Stp.v0 ob0, v1 := Stp.v1 ob0, v2 := Stp.v2 ob0, q0 := (Stp.q0 ob0), q1 := (Stp.q1 ob0), q2 := (Stp.q2 ob0), q3 := (Stp.q3 ob0), q4 := (Stp.q4 ob0) }) t29o)) (A_11 vars1 t30 ((wr (t31 + (1 : Int)))) ({ kind := Stp.kind ob0, v0 := Stp.v0 ob0, v1 := Stp.v1 ob0, v2 := Stp.v2 ob0, q0 := (Stp.q0 ob0), q1 := (Stp.q1 ob0), q2 := (Stp.q2 ob0), q3 := (Stp.q3 ob0), q4 := (Stp.q4 ob0) }) t29o)))))))) (some (((0 : Int), ())))

theorem b192_11_t : b192_11 = c192_11 := by
  (repeat (apply funext; intro _))
  simp only [b192_11, c192_11, hide_eq, fr_eta', eqL_frF, eqL_frl, zero_fr]

def m192_11 (N : Nat) (n : Nat) (vars1 : Int) (t30 : Int) (t31 : Int) (ob0 : Stp) (t29o : List Int) : Option (Int × Unit) :=
  loopN (fun A x => c192_11 N (fun vars1 t30 t31 ob0 t29o => A ((vars1, ((), ((), (t30, (t31, ()))))), (ob0, (t29o, ())))) x.1.1 x.1.2.2.2.1 x.1.2.2.2.2.1 x.2.1 x.2.2.1) n ((vars1, ((), ((), (t30, (t31, ()))))), (ob0, (t29o, ())))

theorem l192_11_t : l192_11 = m192_11 := by
  (repeat (apply funext; intro _))
  simp only [l192_11, m192_11, b192_11_t, fr_eta', eqL_frF, eqL_frl, zero_fr]

theorem m192_11_zero (N : Nat) (vars1 : Int) (t30 : Int) (t31 : Int) (ob0 : Stp) (t29o : List Int) : m192_11 N 0 vars1 t30 t31 ob0 t29o = none := rfl

theorem m192_11_succ (N : Nat) (n : Nat) (vars1 : Int) (t30 : Int) (t31 : Int) (ob0 : Stp) (t29o : List Int) : m192_11 N (n + 1) vars1 t30 t31 ob0 t29o = c192_11 N (m192_11 N n) vars1 t30 t31 ob0 t29o := rfl

def c192_5 (N : Nat) (A_5 : Int → (List Fr) → Int → Stp → (List Int) → Option (Int × Unit)) (vars1 : Int) (t21 : List Fr) (t22 : Int) (ob0 : Stp) (l5o : List Int) : Option (Int × Unit) :=
  cond ((ltI t22 (5 : Int))) (must (leI (0 : Int) t22 && (ltI t22 (↑(5 : Nat) : Int) && ltI t22 (↑(List.length t21) : Int))) (Option.bind (q79 N ((List.getD t21 (Int.toNat t22) Fr.zero))) fun r0 => cond (!Prod.fst r0) (some (((4 : Int), ()))) (A_5 vars1 t21 ((wr (t22 + (1 : Int)))) ({ kind := Stp.kind ob0, v0 := Stp.v0 ob0, v1 := Stp.v1 ob0, v2 := Stp.v2 ob0, q0 := (Stp.q0 ob0), q1 := (Stp.q1 ob0), q2 := (Stp.q2 ob0), q3 := (Stp.q3 ob0), q4 := (Stp.q4 ob0) }) l5o))) (m192_11 N N vars1 ((↑(List.length l5o) : Int)) ((0 : Int)) ({ kind := Stp.kind ob0, v0 := Stp.v0 ob0, v1 := Stp.v1 ob0, v2 := Stp.v2 ob0, q0 := (Stp.q0 ob0), q1 := (Stp.q1 ob0), q2 := (Stp.q2 ob0), q3 := (Stp.q3 ob0), q4 := (Stp.q4 ob0) }) l5o)

theorem b192_5_t : b192_5 = c192_5 := by
  (repeat (apply funext; intro _))
  simp only [b192_5, c192_5, hide_eq, l192_11_t, p79_t, fr_eta', eqL_frF, eqL_frl, zero_fr]

def m192_5 (N : Nat) (n : Nat) (vars1 : Int) (t21 : List Fr) (t22 : Int) (ob0 : Stp) (l5o : List Int) : Option (Int × Unit) :=
  loopN (fun A x => c192_5 N (fun vars1 t21 t22 ob0 l5o => A ((vars1, ((), ((), (t21, (t22, ()))))), (ob0, (l5o, ())))) x.1.1 x.1.2.2.2.1 x.1.2.2.2.2.1 x.2.1 x.2.2.1) n ((vars1, ((), ((), (t21, (t22, ()))))), (ob0, (l5o, ())))

theorem l192_5_t : l192_5 = m192_5 := by
  (repeat (apply funext; intro _))
  simp only [l192_5, m192_5, b192_5_t, fr_eta', eqL_frF, eqL_frl, zero_fr]

theorem m192_5_zero (N : Nat) (vars1 : Int) (t21 : List Fr) (t22 : Int) (ob0 : Stp) (l5o : List Int) : m192_5 N 0 vars1 t21 t22 ob0 l5o = none := rfl

theorem m192_5_succ (N : Nat) (n : Nat) (vars1 : Int) (t21 : List Fr) (t22 : Int) (ob0 : Stp) (l5o : List Int) : m192_5 N (n + 1) vars1 t21 t22 ob0 l5o = c192_5 N (m192_5 N n) vars1 t21 t22 ob0 l5o := rfl

def q192 (N : Nat) (s0 : Stp) (vars1 : Int) : Option (Int × Unit) :=
  Option.bind (q217 N (Stp.kind s0)) fun r0 => cond (!Prod.fst (Prod.snd r0)) (some (((11 : Int), ()))) (m192_5 N N vars1 ([(Stp.q0 s0), (Stp.q1 s0), (Stp.q2 s0), (Stp.q3 s0), (Stp.q4 s0)]) ((0 : Int)) ({ kind := Stp.kind s0, v0 := Stp.v0 s0, v1 := Stp.v1 s0, v2 := Stp.v2 s0, q0 := (Stp.q0 s0), q1 := (Stp.q1 s0), q2 := (Stp.q2 s0), q3 := (Stp.q3 s0), q4 := (Stp.q4 s0) }) (Prod.fst r0))

theorem p192_t : p192 = q192 := by
  (repeat (apply funext; intro _))
  simp only [p192, q192, hide_eq, l192_5_t, p217_t, fr_eta', eqL_frF, eqL_frl, zero_fr]

def q105 (N : Nat) : Option (Bool × Unit) :=
  Option.bind (q108 N ({ kind := (5 : Int), v0 := (1 : Int), v1 := (2 : Int), v2 := (3 : Int), q0 := Fr.zero, q1 := Fr.zero, q2 := Fr.zero, q3 := Fr.zero, q4 := Fr.zero })) fun r0 => Option.bind (q106 N (setL [Fr.zero, Fr.zero, Fr.zero, Fr.zero, Fr.zero, Fr.zero, Fr.zero, Fr.zero] (5 : Nat) { a0 := (1 : UInt64), a1 := (0 : UInt64), a2 := (0 : UInt64), a3 := (0 : UInt64) }) ({ a0 := (2 : UInt64), a1 := (0 : UInt64), a2 := (0 : UInt64), a3 := (0 : UInt64) }) (Fr.zero) (Fr.zero) (Fr.zero)) fun r1 => cond ((eqF (Prod.fst r1) (Fr.mk (2 : UInt64) 0 0 0))) (cond ((eqI (Prod.fst (Prod.snd r0)) (0 : Int))) (cond ((eqI (↑(List.length (Prod.fst r0)) : Int) (2 : Int))) (Option.bind (q192 N ({ kind := (3 : Int), v0 := (0 : Int), v1 := (0 : Int), v2 := (0 : Int), q0 := Fr.zero, q1 := Fr.zero, q2 := Fr.zero, q3 := Fr.zero, q4 := Fr.zero }) ((0 : Int))) fun r2 => some (((eqI (Prod.fst r2) (10 : Int)), ()))) (some ((false, ())))) (some ((false, ())))) (some ((false, ())))

theorem p105_t : p105 = q105 := by
  (repeat (apply funext; intro _))
  simp only [p105, q105, hide_eq, p106_t, p108_t, p192_t, fr_eta', eqL_frF, eqL_frl, zero_fr]

def c90_2 (N : Nat) (A_2 : (List Fr) → Int → Int → Option (Bool × Unit)) (l0 : List Fr) (most1 : Int) (i5 : Int) : Option (Bool × Unit) :=
  cond ((ltI i5 (↑(List.length l0) : Int))) (must (leI (0 : Int) i5 && ltI i5 (↑(List.length l0) : Int)) (Option.bind (q69 N ((List.getD l0 (Int.toNat i5) Fr.zero))) fun r0 => cond (!Prod.fst r0) (some ((false, ()))) (A_2 l0 most1 ((wr (i5 + (1 : Int))))))) (some (((leI (↑(List.length l0) : Int) most1), ())))

theorem b90_2_t : b90_2 = c90_2 := by
  (repeat (apply funext; intro _))
  simp only [b90_2, c90_2, hide_eq, p69_t, fr_eta', eqL_frF, eqL_frl, zero_fr]

def m90_2 (N : Nat) (n : Nat) (l0 : List Fr) (most1 : Int) (i5 : Int) : Option (Bool × Unit) :=
  loopN (fun A x => c90_2 N (fun l0 most1 i5 => A ((l0, (most1, (i5, ()))), ())) x.1.1 x.1.2.1 x.1.2.2.1) n ((l0, (most1, (i5, ()))), ())

theorem l90_2_t : l90_2 = m90_2 := by
  (repeat (apply funext; intro _))
  simp only [l90_2, m90_2, b90_2_t, fr_eta', eqL_frF, eqL_frl, zero_fr]

theorem m90_2_zero (N : Nat) (l0 : List Fr) (most1 : Int) (i5 : Int) : m90_2 N 0 l0 most1 i5 = none := rfl

theorem m90_2_succ (N : Nat) (n : Nat) (l0 : List Fr) (most1 : Int) (i5 : Int) : m90_2 N (n + 1) l0 most1 i5 = c90_2 N (m90_2 N n) l0 most1 i5 := rfl

def q90 (N : Nat) (l0 : List Fr) (most1 : Int) : Option (Bool × Unit) :=
  m90_2 N N l0 most1 ((0 : Int))

theorem p90_t : p90 = q90 := by
  (repeat (apply funext; intro _))
  simp only [p90, q90, l90_2_t, fr_eta', eqL_frF, eqL_frl, zero_fr]

def q190 (N : Nat) (a0 : Fr) (b1 : Fr) : Option (Fr × Unit) :=
  Option.bind (q94 N (a0) (b1)) fun r0 => some (((Prod.fst r0), ()))

theorem p190_t : p190 = q190 := by
  (repeat (apply funext; intro _))
  simp only [p190, q190, p94_t, fr_eta', eqL_frF, eqL_frl, zero_fr]

def q194 (N : Nat) (a0 : Fr) (b1 : Fr) : Option (Fr × Unit) :=
  Option.bind (q81 N (a0) (b1)) fun r0 => some (((Prod.fst r0), ()))

theorem p194_t : p194 = q194 := by
  (repeat (apply funext; intro _))
  simp only [p194, q194, p81_t, fr_eta', eqL_frF, eqL_frl, zero_fr]

def c107_5 (N : Nat) (A_5 : Int → (List Fr) → Fr → (List Fr) → Fr → Option (Fr × Unit)) (i14 : Int) (ob0 : List Fr) (ob1 : Fr) (ob2 : List Fr) (ob3 : Fr) : Option (Fr × Unit) :=
  cond ((ltI i14 (8 : Int))) (must (leI (0 : Int) i14 && ltI i14 (↑(8 : Nat) : Int)) (must (leI (0 : Int) i14 && ltI i14 (↑(8 : Nat) : Int)) (Option.bind (q190 N ((List.getD ob0 (Int.toNat i14) Fr.zero)) ((List.getD ob2 (Int.toNat i14) Fr.zero))) fun r0 => Option.bind (q194 N (ob3) ((Prod.fst r0))) fun r1 => A_5 ((wr (i14 + (1 : Int)))) ob0 (ob1) ob2 ((Prod.fst r1))))) (some ((ob3, ())))

theorem b107_5_t : b107_5 = c107_5 := by
  (repeat (apply funext; intro _))
  simp only [b107_5, c107_5, hide_eq, p190_t, p194_t, fr_eta', eqL_frF, eqL_frl, zero_fr]

def m107_5 (N : Nat) (n : Nat) (i14 : Int) (ob0 : List Fr) (ob1 : Fr) (ob2 : List Fr) (ob3 : Fr) : Option (Fr × Unit) :=
  loopN (fun A x => c107_5 N (fun i14 ob0 ob1 ob2 ob3 => A (((), ((), ((), ((), (i14, ()))))), (ob0, (ob1, (ob2, (ob3, ())))))) x.1.2.2.2.2.1 x.2.1 x.2.2.1 x.2.2.2.1 x.2.2.2.2.1) n (((), ((), ((), ((), (i14, ()))))), (ob0, (ob1, (ob2, (ob3, ())))))

theorem l107_5_t : l107_5 = m107_5 := by
  (repeat (apply funext; intro _))
  simp only [l107_5, m107_5, b107_5_t, fr_eta', eqL_frF, eqL_frl, zero_fr]

theorem m107_5_zero (N : Nat) (i14 : Int) (ob0 : List Fr) (ob1 : Fr) (ob2 : List Fr) (ob3 : Fr) : m107_5 N 0 i14 ob0 ob1 ob2 ob3 = none := rfl

theorem m107_5_succ (N : Nat) (n : Nat) (i14 : Int) (ob0 : List Fr) (ob1 : Fr) (ob2 : List Fr) (ob3 : Fr) : m107_5 N (n + 1) i14 ob0 ob1 ob2 ob3 = c107_5 N (m107_5 N n) i14 ob0 ob1 ob2 ob3 := rfl

def q107 (N : Nat) (q0 : List Fr) (a1 : Fr) (b2 : Fr) (c3 : Fr) (next4 : Fr) : Option (Fr × Unit) :=
  must (Nat.beq (List.length q0) (8 : Nat)) (Option.bind (q190 N (a1) (a1)) fun r0 => Option.bind (q190 N (a1) (b2)) fun r1 => Option.bind (q173 N ((1 : UInt64))) fun r2 => Option.bind (q83 N ((Prod.fst r0)) (a1)) fun r3 => Option.bind (q190 N ((Prod.fst r0)) ((Prod.fst r0))) fun r4 => Option.bind (q190 N ((Prod.fst r4)) (a1)) fun r5 => Option.bind (q83 N ((Prod.fst r5)) (c3)) fun r6 => Option.bind (q194 N (a1) (b2)) fun r7 => Option.bind (q83 N ((Prod.fst r7)) (next4)) fun r8 => m107_5 N N ((0 : Int)) q0 (Fr.zero) ([(Prod.fst r1), a1, b2, c3, (Prod.fst r2), (Prod.fst r3), (Prod.fst r6), (Prod.fst r8)]) (Fr.zero))

theorem p107_t : p107 = q107 := by
  (repeat (apply funext; intro _))
  simp only [p107, q107, l107_5_t, p173_t, p190_t, p194_t, p83_t, fr_eta', eqL_frF, eqL_frl, zero_fr]

def q23 (N : Nat) (q0 : List Fr) (a1 : Fr) (b2 : Fr) (c3 : Fr) (next4 : Fr) : Option (Bool × Unit) :=
  must (Nat.beq (List.length q0) (8 : Nat)) (Option.bind (q105 N) fun r0 => cond (!Prod.fst r0) (some ((false, ()))) (Option.bind (q90 N (List.take (Int.toNat ((↑(8 : Nat) : Int) - (0 : Int))) q0) ((8 : Int))) fun r1 => cond (!Prod.fst r1) (some ((true, ()))) (Option.bind (q90 N ([a1, b2, c3, next4]) ((4 : Int))) fun r2 => cond (!Prod.fst r2) (some ((true, ()))) (Option.bind (q106 N q0 (a1) (b2) (c3) (next4)) fun r3 => Option.bind (q107 N q0 (a1) (b2) (c3) (next4)) fun r4 => some (((eqF (Prod.fst r3) (Prod.fst r4)), ()))))))

theorem p23_t : p23 = q23 := by
  (repeat (apply funext; intro _))
  simp only [p23, q23, hide_eq, p105_t, p106_t, p107_t, p90_t, fr_eta', eqL_frF, eqL_frl, zero_fr]

def c25_7 (N : Nat) (A_7 : Int → (List Fr) → (List Fr) → Fr → Fr → Fr → Fr → Fr → (List Fr) → Option (Bool × Unit)) (i16 : Int) (ob0 : List Fr) (ob1 : List Fr) (ob2 : Fr) (ob3 : Fr) (ob4 : Fr) (ob5 : Fr) (ob6 : Fr) (ob7 : List Fr) : Option (Bool × Unit) :=
  cond ((ltI i16 (8 : Int))) (must (leI (0 : Int) i16 && ltI i16 (↑(8 : Nat) : Int)) (must (leI (0 : Int) i16 && ltI i16 (↑(8 : Nat) : Int)) (Option.bind (q94 N (ob2) ((List.getD ob1 (Int.toNat i16) Fr.zero))) fun r6 => Option.bind (q81 N ((List.getD ob0 (Int.toNat i16) Fr.zero)) ((Prod.fst r6))) fun r7 => must (leI (0 : Int) i16 && ltI i16 (↑(8 : Nat) : Int)) (A_7 ((wr (i16 + (1 : Int)))) ob0 ob1 (ob2) (ob3) (ob4) (ob5) (ob6) (setL ob7 (Int.toNat i16) (Prod.fst r7)))))) (Option.bind (q106 N ob7 (ob3) (ob4) (ob5) (ob6)) fun r0 => Option.bind (q106 N ob0 (ob3) (ob4) (ob5) (ob6)) fun r1 => Option.bind (q106 N ob1 (ob3) (ob4) (ob5) (ob6)) fun r2 => Option.bind (q94 N (ob2) ((Prod.fst r2))) fun r3 => Option.bind (q81 N ((Prod.fst r1)) ((Prod.fst r3))) fun r4 => cond ((eqF (Prod.fst r0) (Prod.fst r4))) (Option.bind (q106 N ([Fr.zero, Fr.zero, Fr.zero, Fr.zero, Fr.zero, Fr.zero, Fr.zero, Fr.zero]) (ob3) (ob4) (ob5) (ob6)) fun r5 => some (((eqF (Prod.fst r5) (Fr.mk (0 : UInt64) 0 0 0)), ()))) (some ((false, ()))))

theorem b25_7_t : b25_7 = c25_7 := by
  (repeat (apply funext; intro _))
  simp only [b25_7, c25_7, hide_eq, p106_t, p81_t, p94_t, fr_eta', eqL_frF, eqL_frl, zero_fr]

def m25_7 (N : Nat) (n : Nat) (i16 : Int) (ob0 : List Fr) (ob1 : List Fr) (ob2 : Fr) (ob3 : Fr) (ob4 : Fr) (ob5 : Fr) (ob6 : Fr) (ob7 : List Fr) : Option (Bool × Unit) :=
  loopN (fun A x => c25_7 N (fun i16 ob0 ob1 ob2 ob3 ob4 ob5 ob6 ob7 => A (((), ((), ((), ((), ((), ((), ((), ((), (i16, ()))))))))), (ob0, (ob1, (ob2, (ob3, (ob4, (ob5, (ob6, (ob7, ())))))))))) x.1.2.2.2.2.2.2.2.2.1 x.2.1 x.2.2.1 x.2.2.2.1 x.2.2.2.2.1 x.2.2.2.2.2.1 x.2.2.2.2.2.2.1 x.2.2.2.2.2.2.2.1 x.2.2.2.2.2.2.2.2.1) n (((), ((), ((), ((), ((), ((), ((), ((), (i16, ()))))))))), (ob0, (ob1, (ob2, (ob3, (ob4, (ob5, (ob6, (ob7, ())))))))))

theorem l25_7_t : l25_7 = m25_7 := by
  (repeat (apply funext; intro _))
  simp only [l25_7, m25_7, b25_7_t, fr_eta', eqL_frF, eqL_frl, zero_fr]

theorem m25_7_zero (N : Nat) (i16 : Int) (ob0 : List Fr) (ob1 : List Fr) (ob2 : Fr) (ob3 : Fr) (ob4 : Fr) (ob5 : Fr) (ob6 : Fr) (ob7 : List Fr) : m25_7 N 0 i16 ob0 ob1 ob2 ob3 ob4 ob5 ob6 ob7 = none := rfl

theorem m25_7_succ (N : Nat) (n : Nat) (i16 : Int) (ob0 : List Fr) (ob1 : List Fr) (ob2 : Fr) (ob3 : Fr) (ob4 : Fr) (ob5 : Fr) (ob6 : Fr) (ob7 : List Fr) : m25_7 N (n + 1) i16 ob0 ob1 ob2 ob3 ob4 ob5 ob6 ob7 = c25_7 N (m25_7 N n) i16 ob0 ob1 ob2 ob3 ob4 ob5 ob6 ob7 := rfl

def q25 (N : Nat) (p0 : List Fr) (q1 : List Fr) (k2 : Fr) (a3 : Fr) (b4 : Fr) (c5 : Fr) (next6 : Fr) : Option (Bool × Unit) :=
  must (Nat.beq (List.length p0) (8 : Nat)) (must (Nat.beq (List.length q1) (8 : Nat)) (Option.bind (q105 N) fun r0 => cond (!Prod.fst r0) (some ((false, ()))) (Option.bind (q90 N (List.take (Int.toNat ((↑(8 : Nat) : Int) - (0 : Int))) p0) ((8 : Int))) fun r1 => cond (!Prod.fst r1) (some ((true, ()))) (Option.bind (q90 N (List.take (Int.toNat ((↑(8 : Nat) : Int) - (0 : Int))) q1) ((8 : Int))) fun r2 => cond (!Prod.fst r2) (some ((true, ()))) (Option.bind (q90 N ([k2, a3, b4, c5, next6]) ((5 : Int))) fun r3 => cond (!Prod.fst r3) (some ((true, ()))) (m25_7 N N ((0 : Int)) p0 q1 (k2) (a3) (b4) (c5) (next6) ([Fr.zero, Fr.zero, Fr.zero, Fr.zero, Fr.zero, Fr.zero, Fr.zero, Fr.zero])))))))

theorem p25_t : p25 = q25 := by
  (repeat (apply funext; intro _))
  simp only [p25, q25, hide_eq, l25_7_t, p105_t, p90_t, fr_eta', eqL_frF, eqL_frl, zero_fr]

end Go.Proofs.Ytgimohchocjgcaa.V
