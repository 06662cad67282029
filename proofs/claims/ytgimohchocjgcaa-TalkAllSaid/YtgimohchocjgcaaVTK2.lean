import Derived.Test.YtgimohchocjgcaaVTK1
import Derived.Test.YtgimohchocjgcaaVSQ
import Derived.Test.YtgimohchocjgcaaVFW
import Derived.KernelRfl
set_option linter.unusedVariables false
set_option linter.unusedSimpArgs false
namespace Go.Proofs.Ytgimohchocjgcaa.V
def q191 (N : Nat) (t0 : List UInt8) (b1 : List UInt8) : Option (List UInt8 × List UInt8 × Unit) :=
  must (leN (((0 : Nat) + List.length (List.take (Int.toNat ((↑(32 : Nat) : Int) - (0 : Int))) t0)) * (1 : Nat)) (140737488355328 : Nat)) (must (leN ((List.length (List.take (Int.toNat ((↑(32 : Nat) : Int) - (0 : Int))) t0) + List.length b1) * (1 : Nat)) (140737488355328 : Nat)) (Option.bind (q42 N (List.take (Int.toNat ((↑(32 : Nat) : Int) - (0 : Int))) t0 ++ b1)) fun rr0 => must (Nat.beq (List.length (Prod.fst rr0)) (32 : Nat)) (some ((t0, Prod.fst rr0, ())))))
theorem p191_t : p191 = q191 := by
  (repeat (apply funext; intro _))
  simp only [p191, q191, p42_t, fr_eta', eqL_frF, eqL_frl, zero_fr]
def q104 (N : Nat) (t0 : List UInt8) : Option (List UInt8 × List UInt8 × Unit) :=
  cond (false) (some ((t0, [(0 : UInt8), (0 : UInt8), (0 : UInt8), (0 : UInt8), (0 : UInt8), (0 : UInt8), (0 : UInt8), (0 : UInt8), (0 : UInt8), (0 : UInt8), (0 : UInt8), (0 : UInt8), (0 : UInt8), (0 : UInt8), (0 : UInt8), (0 : UInt8), (0 : UInt8), (0 : UInt8), (0 : UInt8), (0 : UInt8), (0 : UInt8), (0 : UInt8), (0 : UInt8), (0 : UInt8), (0 : UInt8), (0 : UInt8), (0 : UInt8), (0 : UInt8), (0 : UInt8), (0 : UInt8), (0 : UInt8), (0 : UInt8)], ()))) (must (Nat.beq (List.length t0) (32 : Nat)) (some ((t0, t0, ()))))
theorem p104_t : p104 = q104 := by
  (repeat (apply funext; intro _))
  simp only [p104, q104, hide_eq, fr_eta', eqL_frF, eqL_frl, zero_fr]
def c103_3 (N : Nat) (A_3 : (List UInt8) → Int → (List UInt8) → (List UInt8) → Option (List UInt8 × Unit)) (b2 : List UInt8) (shift7 : Int) (ob0 : List UInt8) (head6o : List UInt8) : Option (List UInt8 × Unit) :=
  cond ((leI (0 : Int) shift7)) (must (leN ((List.length head6o + List.length [(UInt8.ofNat (UInt64.toNat ((shr64 ((u64I (↑(List.length b2) : Int))) (UInt64.toNat ((u64I shift7)))))))]) * (1 : Nat)) (140737488355328 : Nat)) (A_3 b2 ((wr (shift7 - (8 : Int)))) ob0 (head6o ++ [(UInt8.ofNat (UInt64.toNat ((shr64 ((u64I (↑(List.length b2) : Int))) (UInt64.toNat ((u64I shift7)))))))]))) (must (leN ((List.length head6o + List.length b2) * (1 : Nat)) (140737488355328 : Nat)) (Option.bind (q191 N ob0 (head6o ++ b2)) fun rr0 => must (Nat.beq (List.length (Prod.fst rr0)) (List.length ob0)) (must (Nat.beq (List.length (Prod.fst (Prod.snd rr0))) (32 : Nat)) (some ((Prod.fst (Prod.snd rr0), ()))))))
theorem b103_3_t : b103_3 = c103_3 := by
  (repeat (apply funext; intro _))
  simp only [b103_3, c103_3, hide_eq, p191_t, fr_eta', eqL_frF, eqL_frl, zero_fr]
def m103_3 (N : Nat) (n : Nat) (b2 : List UInt8) (shift7 : Int) (ob0 : List UInt8) (head6o : List UInt8) : Option (List UInt8 × Unit) :=
  loopN (fun A x => c103_3 N (fun b2 shift7 ob0 head6o => A (((), (b2, ((), (shift7, ())))), (ob0, (head6o, ())))) x.1.2.1 x.1.2.2.2.1 x.2.1 x.2.2.1) n (((), (b2, ((), (shift7, ())))), (ob0, (head6o, ())))
theorem l103_3_t : l103_3 = m103_3 := by
  (repeat (apply funext; intro _))
  simp only [l103_3, m103_3, b103_3_t, fr_eta', eqL_frF, eqL_frl, zero_fr]
theorem m103_3_succ (N : Nat) (n : Nat) (b2 : List UInt8) (shift7 : Int) (ob0 : List UInt8) (head6o : List UInt8) : m103_3 N (n + 1) b2 shift7 ob0 head6o = c103_3 N (m103_3 N n) b2 shift7 ob0 head6o := rfl
def q103 (N : Nat) (t0 : List UInt8) (tag1 : UInt8) (b2 : List UInt8) : Option (List UInt8 × Unit) :=
  cond (false) (some ((t0, ()))) (m103_3 N N b2 ((56 : Int)) t0 ([(1 : UInt8), tag1]))
theorem p103_t : p103 = q103 := by
  (repeat (apply funext; intro _))
  simp only [p103, q103, hide_eq, l103_3_t, fr_eta', eqL_frF, eqL_frl, zero_fr]
def q102 (N : Nat) (t0 : List UInt8) (tag1 : UInt8) : Option (List UInt8 × Fr × Unit) :=
  cond (false) (some ((t0, Fr.zero, ()))) (Option.bind (q191 N t0 ([(2 : UInt8), tag1, (0 : UInt8)])) fun rr0 => must (Nat.beq (List.length (Prod.fst rr0)) (List.length t0)) (Option.bind (q191 N (Prod.fst rr0) ([(2 : UInt8), tag1, (1 : UInt8)])) fun rr1 => must (Nat.beq (List.length (Prod.fst rr1)) (List.length (Prod.fst rr0))) (must (Nat.beq (List.length (Prod.fst (Prod.snd rr0))) (32 : Nat)) (must (Nat.beq (List.length (Prod.fst (Prod.snd rr1))) (32 : Nat)) (Option.bind (q191 N (Prod.fst rr1) ([(3 : UInt8), tag1])) fun rr2 => must (Nat.beq (List.length (Prod.fst rr2)) (List.length (Prod.fst rr1))) (must (Nat.beq (List.length (Prod.fst (Prod.snd rr2))) (32 : Nat)) (must (ltN (0 : Nat) (List.length (List.take (Int.toNat ((↑(32 : Nat) : Int) - (0 : Int))) (Prod.fst (Prod.snd rr1)))) && leN ((Int.toNat ((↑(32 : Nat) : Int) - (0 : Int)) + List.length (List.take (Int.toNat ((↑(32 : Nat) : Int) - (0 : Int))) (Prod.fst (Prod.snd rr1)))) * (1 : Nat)) (140737488355328 : Nat)) (Option.bind (q126 N (Prod.fst (Prod.snd rr0) ++ List.take (Int.toNat ((↑(32 : Nat) : Int) - (0 : Int))) (Prod.fst (Prod.snd rr1)))) fun rr3 => some ((Prod.fst (Prod.snd rr2), (Prod.fst rr3), ()))))))))))
theorem p102_t : p102 = q102 := by
  (repeat (apply funext; intro _))
  simp only [p102, q102, hide_eq, p126_t, p191_t, fr_eta', eqL_frF, eqL_frl, zero_fr]
def q101 (N : Nat) (name0 : List UInt8) : Option (Unit × List UInt8 × Unit) :=
  must (leN ((List.length [(0 : UInt8)] + List.length name0) * (1 : Nat)) (140737488355328 : Nat)) (Option.bind (q42 N ([(0 : UInt8)] ++ name0)) fun rr0 => must (Nat.beq (List.length (Prod.fst rr0)) (32 : Nat) && Nat.ble (32 : Nat) (32 : Nat)) (must (Nat.beq (List.length (Prod.fst rr0)) (32 : Nat)) (some (((), Prod.fst rr0, ())))))
theorem p101_t : p101 = q101 := by
  (repeat (apply funext; intro _))
  simp only [p101, q101, p42_t, fr_eta', eqL_frF, eqL_frl, zero_fr]
def c100_4 (N : Nat) (A_4 : (List Tn) → Int → Option (Bool × Unit)) (l0 : List Tn) (i3 : Int) : Option (Bool × Unit) :=
  cond ((ltI i3 (↑(List.length l0) : Int))) (must (leI (0 : Int) i3 && ltI i3 (↑(List.length l0) : Int)) (cond ((ltI (200 : Int) (↑(List.length (Tn.b (List.getD l0 (Int.toNat i3) Tn.zero))) : Int))) (some ((false, ()))) (A_4 l0 ((wr (i3 + (1 : Int))))))) (some ((true, ())))
theorem b100_4_t : b100_4 = c100_4 := by
  (repeat (apply funext; intro _))
  simp only [b100_4, c100_4, hide_eq, fr_eta', eqL_frF, eqL_frl, zero_fr]
def m100_4 (N : Nat) (n : Nat) (l0 : List Tn) (i3 : Int) : Option (Bool × Unit) :=
  loopN (fun A x => c100_4 N (fun l0 i3 => A ((l0, (i3, ())), ())) x.1.1 x.1.2.1) n ((l0, (i3, ())), ())
theorem l100_4_t : l100_4 = m100_4 := by
  (repeat (apply funext; intro _))
  simp only [l100_4, m100_4, b100_4_t, fr_eta', eqL_frF, eqL_frl, zero_fr]
theorem m100_4_succ (N : Nat) (n : Nat) (l0 : List Tn) (i3 : Int) : m100_4 N (n + 1) l0 i3 = c100_4 N (m100_4 N n) l0 i3 := rfl
def q100 (N : Nat) (l0 : List Tn) : Option (Bool × Unit) :=
  cond ((ltI (12 : Int) (↑(List.length l0) : Int))) (some ((false, ()))) (m100_4 N N l0 ((0 : Int)))
theorem p100_t : p100 = q100 := by
  (repeat (apply funext; intro _))
  simp only [p100, q100, hide_eq, l100_4_t, fr_eta', eqL_frF, eqL_frl, zero_fr]
def q99 (N : Nat) : Option (Bool × Unit) :=
  Option.bind (q101 N ([(97 : UInt8)])) fun rr0 => cond (false) (some ((false, ()))) (Option.bind (q103 N (Prod.fst (Prod.snd rr0)) ((1 : UInt8)) []) fun rr1 => must (Nat.beq (List.length (Prod.fst rr1)) (List.length (Prod.fst (Prod.snd rr0)))) (Option.bind (q102 N (Prod.fst rr1) ((1 : UInt8))) fun rr2 => must (Nat.beq (List.length (Prod.fst rr2)) (List.length (Prod.fst rr1))) (cond (!eqF (Prod.fst (Prod.snd rr2)) (Fr.mk (0 : UInt64) 0 0 0)) (Option.bind (q104 N (Prod.fst rr2)) fun rr3 => must (Nat.beq (List.length (Prod.fst rr3)) (List.length (Prod.fst rr2))) (must (Nat.beq (List.length (Prod.fst (Prod.snd rr3))) (32 : Nat) && Nat.beq (List.length [(0 : UInt8), (0 : UInt8), (0 : UInt8), (0 : UInt8), (0 : UInt8), (0 : UInt8), (0 : UInt8), (0 : UInt8), (0 : UInt8), (0 : UInt8), (0 : UInt8), (0 : UInt8), (0 : UInt8), (0 : UInt8), (0 : UInt8), (0 : UInt8), (0 : UInt8), (0 : UInt8), (0 : UInt8), (0 : UInt8), (0 : UInt8), (0 : UInt8), (0 : UInt8), (0 : UInt8), (0 : UInt8), (0 : UInt8), (0 : UInt8), (0 : UInt8), (0 : UInt8), (0 : UInt8), (0 : UInt8), (0 : UInt8)]) (32 : Nat)) (some ((!eqL El.u8 (Prod.fst (Prod.snd rr3)) [(0 : UInt8), (0 : UInt8), (0 : UInt8), (0 : UInt8), (0 : UInt8), (0 : UInt8), (0 : UInt8), (0 : UInt8), (0 : UInt8), (0 : UInt8), (0 : UInt8), (0 : UInt8), (0 : UInt8), (0 : UInt8), (0 : UInt8), (0 : UInt8), (0 : UInt8), (0 : UInt8), (0 : UInt8), (0 : UInt8), (0 : UInt8), (0 : UInt8), (0 : UInt8), (0 : UInt8), (0 : UInt8), (0 : UInt8), (0 : UInt8), (0 : UInt8), (0 : UInt8), (0 : UInt8), (0 : UInt8), (0 : UInt8)], ()))))) (some ((false, ()))))))
theorem p99_t : p99 = q99 := by
  (repeat (apply funext; intro _))
  simp only [p99, q99, hide_eq, p101_t, p102_t, p103_t, p104_t, fr_eta', eqL_frF, eqL_frl, zero_fr]
end Go.Proofs.Ytgimohchocjgcaa.V
