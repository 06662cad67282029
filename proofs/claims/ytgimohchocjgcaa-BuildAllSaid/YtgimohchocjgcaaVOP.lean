import Derived.Test.YtgimohchocjgcaaVWB13
import Derived.Test.YtgimohchocjgcaaVBC1
import Derived.KernelRfl
import Derived.Test.YtgimohchocjgcaaVME
import Derived.WalkKit
import Derived.ProofKit
import Derived.OpenShut
import Derived.Carry
import Derived.ChangeSlices
import Derived.Test.YtgimohchocjgcaaVRW
set_option linter.unusedVariables false
set_option linter.unusedSimpArgs false
namespace Go.Proofs.Ytgimohchocjgcaa.V
section
theorem zuX : q112 2000 = some (true, ()) := by kernel_rfl
theorem zuY (N : Nat) (A : Int -> List Fr -> Int -> Stp -> List Int -> Option (Int × Unit)) (V : Int) (q0 q1 q2 q3 q4 : Fr) (s : Stp) (l : List Int) : zdx N A V [q0, q1, q2, q3, q4] 0 s l = Option.bind (q79 N q0) fun rr => cond (!rr.1) (some ((4 : Int), ())) (A V [q0, q1, q2, q3, q4] 1 s l) := by kernel_rfl
theorem zuZ (N : Nat) (A : Int -> List Fr -> Int -> Stp -> List Int -> Option (Int × Unit)) (V : Int) (q0 q1 q2 q3 q4 : Fr) (s : Stp) (l : List Int) : zdx N A V [q0, q1, q2, q3, q4] 1 s l = Option.bind (q79 N q1) fun rr => cond (!rr.1) (some ((4 : Int), ())) (A V [q0, q1, q2, q3, q4] 2 s l) := by kernel_rfl
theorem zu0 (N : Nat) (A : Int -> List Fr -> Int -> Stp -> List Int -> Option (Int × Unit)) (V : Int) (q0 q1 q2 q3 q4 : Fr) (s : Stp) (l : List Int) : zdx N A V [q0, q1, q2, q3, q4] 2 s l = Option.bind (q79 N q2) fun rr => cond (!rr.1) (some ((4 : Int), ())) (A V [q0, q1, q2, q3, q4] 3 s l) := by kernel_rfl
theorem zu1 (N : Nat) (A : Int -> List Fr -> Int -> Stp -> List Int -> Option (Int × Unit)) (V : Int) (q0 q1 q2 q3 q4 : Fr) (s : Stp) (l : List Int) : zdx N A V [q0, q1, q2, q3, q4] 3 s l = Option.bind (q79 N q3) fun rr => cond (!rr.1) (some ((4 : Int), ())) (A V [q0, q1, q2, q3, q4] 4 s l) := by kernel_rfl
theorem zu2 (N : Nat) (A : Int -> List Fr -> Int -> Stp -> List Int -> Option (Int × Unit)) (V : Int) (q0 q1 q2 q3 q4 : Fr) (s : Stp) (l : List Int) : zdx N A V [q0, q1, q2, q3, q4] 4 s l = Option.bind (q79 N q4) fun rr => cond (!rr.1) (some ((4 : Int), ())) (A V [q0, q1, q2, q3, q4] 5 s l) := by kernel_rfl
theorem zu3 (N : Nat) (A : Int -> List Fr -> Int -> Stp -> List Int -> Option (Int × Unit)) (V : Int) (q0 q1 q2 q3 q4 : Fr) (s : Stp) (l : List Int) : zdx N A V [q0, q1, q2, q3, q4] 5 s l = zaO N N V (l.length : Int) 0 s l := by kernel_rfl
theorem l192 (N M : Nat) (hN : 10 < N) (V : Int) (q0 q1 q2 q3 q4 : Fr) (s : Stp) (l : List Int) : zcA N (M + 6) V [q0, q1, q2, q3, q4] 0 s l = cond (bg q0 || bg q1 || bg q2 || bg q3 || bg q4) (some ((4 : Int), ())) (zaO N N V (l.length : Int) 0 s l) := by
  have key : ∀ (q : Fr) (X : Option (Int × Unit)), (Option.bind (q79 N q) fun rr => cond (!rr.1) (some ((4 : Int), ())) X) = cond (bg q) (some ((4 : Int), ())) X := fun q X => by
    rw [zqT hN]; rfl
  rw [zbH, zuY, key, zbH, zuZ, key, zbH, zu0, key, zbH, zu1, key, zbH, zu2, key, zbH, zu3, zbM, zbM, zbM, zbM]
theorem zu4 (N : Nat) (A : Int -> Int -> Int -> Stp -> List Int -> Option (Int × Unit)) (V v0 v1 v2 : Int) (q0 q1 q2 q3 q4 : Fr) : zaJ N A V 0 0 ⟨1, v0, v1, v2, q0, q1, q2, q3, q4⟩ [] = some ((0 : Int), ()) := by kernel_rfl
theorem zu5 (N M : Nat) (V v0 v1 v2 : Int) (q0 q1 q2 q3 q4 : Fr) : zaO N (M + 4) V 0 0 ⟨1, v0, v1, v2, q0, q1, q2, q3, q4⟩ [] = some ((0 : Int), ()) := by
  rw [zaq, zu4]
theorem zu6 (V v0 v1 v2 : Int) (q0 q1 q2 q3 q4 : Fr) : errS V ⟨1, v0, v1, v2, q0, q1, q2, q3, q4⟩ = cond (bg q0 || bg q1 || bg q2 || bg q3 || bg q4) 4 (cond (false) 10 0) := by
  show cond (bg q0 || bg q1 || bg q2 || bg q3 || bg q4) 4 (cond (badN V ⟨1, v0, v1, v2, q0, q1, q2, q3, q4⟩) 10 0) = _
  rw [show badN V ⟨1, v0, v1, v2, q0, q1, q2, q3, q4⟩ = ((false && badV 1 V v0) || (false && badV 1 V v1) || (false && badV 1 V v2)) from rfl]
  simp only [Bool.true_and, Bool.false_and, Bool.or_false, Bool.false_or]
theorem zu7 (M : Nat) (V v0 v1 v2 : Int) (q0 q1 q2 q3 q4 : Fr) : q192 (M + 20) ⟨1, v0, v1, v2, q0, q1, q2, q3, q4⟩ V = some (errS V ⟨1, v0, v1, v2, q0, q1, q2, q3, q4⟩, ()) := by
  rw [zu6]
  refine (show q192 (M + 20) ⟨1, v0, v1, v2, q0, q1, q2, q3, q4⟩ V = zcA (M + 20) (M + 14 + 6) V [q0, q1, q2, q3, q4] 0 ⟨1, v0, v1, v2, q0, q1, q2, q3, q4⟩ [] by kernel_rfl).trans ?_
  rw [l192 (M + 20) (M + 14) (by omega), show zaO (M + 20) (M + 20) V ((([]).length : Nat) : Int) 0 ⟨1, v0, v1, v2, q0, q1, q2, q3, q4⟩ [] = _ from zu5 (M + 20) (M + 16) V v0 v1 v2 q0 q1 q2 q3 q4]
  cases (bg q0 || bg q1 || bg q2 || bg q3 || bg q4) <;> rfl
theorem zqk (N : Nat) (A : Int -> Int -> Int -> Stp -> List Int -> Option (Int × Unit)) (V v0 v1 v2 : Int) (q0 q1 q2 q3 q4 : Fr) : zaJ N A V 3 0 ⟨2, v0, v1, v2, q0, q1, q2, q3, q4⟩ [(0 : Int), (1 : Int), (2 : Int)] = cond (true && badV 2 V v0) (some ((10 : Int), ())) (A V 3 1 ⟨2, v0, v1, v2, q0, q1, q2, q3, q4⟩ [(0 : Int), (1 : Int), (2 : Int)]) := by
  rw [← zaK]; kernel_rfl
theorem zql (N : Nat) (A : Int -> Int -> Int -> Stp -> List Int -> Option (Int × Unit)) (V v0 v1 v2 : Int) (q0 q1 q2 q3 q4 : Fr) : zaJ N A V 3 1 ⟨2, v0, v1, v2, q0, q1, q2, q3, q4⟩ [(0 : Int), (1 : Int), (2 : Int)] = cond (true && badV 2 V v1) (some ((10 : Int), ())) (A V 3 2 ⟨2, v0, v1, v2, q0, q1, q2, q3, q4⟩ [(0 : Int), (1 : Int), (2 : Int)]) := by
  rw [← zaK]; kernel_rfl
theorem zqm (N : Nat) (A : Int -> Int -> Int -> Stp -> List Int -> Option (Int × Unit)) (V v0 v1 v2 : Int) (q0 q1 q2 q3 q4 : Fr) : zaJ N A V 3 2 ⟨2, v0, v1, v2, q0, q1, q2, q3, q4⟩ [(0 : Int), (1 : Int), (2 : Int)] = cond (true && badV 2 V v2) (some ((10 : Int), ())) (A V 3 3 ⟨2, v0, v1, v2, q0, q1, q2, q3, q4⟩ [(0 : Int), (1 : Int), (2 : Int)]) := by
  rw [← zaK]; kernel_rfl
theorem zu8 (N : Nat) (A : Int -> Int -> Int -> Stp -> List Int -> Option (Int × Unit)) (V v0 v1 v2 : Int) (q0 q1 q2 q3 q4 : Fr) : zaJ N A V 3 3 ⟨2, v0, v1, v2, q0, q1, q2, q3, q4⟩ [(0 : Int), (1 : Int), (2 : Int)] = some ((0 : Int), ()) := by kernel_rfl
theorem zu9 (N M : Nat) (V v0 v1 v2 : Int) (q0 q1 q2 q3 q4 : Fr) : zaO N (M + 4) V 3 0 ⟨2, v0, v1, v2, q0, q1, q2, q3, q4⟩ [(0 : Int), (1 : Int), (2 : Int)] = cond (badV 2 V v0) (some ((10 : Int), ())) (cond (badV 2 V v1) (some ((10 : Int), ())) (cond (badV 2 V v2) (some ((10 : Int), ())) (some ((0 : Int), ())))) := by
  rw [zaq, zqk, Bool.true_and, zaq, zql, Bool.true_and, zaq, zqm, Bool.true_and, zaq, zu8]
theorem zva (V v0 v1 v2 : Int) (q0 q1 q2 q3 q4 : Fr) : errS V ⟨2, v0, v1, v2, q0, q1, q2, q3, q4⟩ = cond (bg q0 || bg q1 || bg q2 || bg q3 || bg q4) 4 (cond (badV 2 V v0 || badV 2 V v1 || badV 2 V v2) 10 0) := by
  show cond (bg q0 || bg q1 || bg q2 || bg q3 || bg q4) 4 (cond (badN V ⟨2, v0, v1, v2, q0, q1, q2, q3, q4⟩) 10 0) = _
  rw [show badN V ⟨2, v0, v1, v2, q0, q1, q2, q3, q4⟩ = ((true && badV 2 V v0) || (true && badV 2 V v1) || (true && badV 2 V v2)) from rfl]
  simp only [Bool.true_and, Bool.false_and, Bool.or_false, Bool.false_or]
theorem zvb (M : Nat) (V v0 v1 v2 : Int) (q0 q1 q2 q3 q4 : Fr) : q192 (M + 20) ⟨2, v0, v1, v2, q0, q1, q2, q3, q4⟩ V = some (errS V ⟨2, v0, v1, v2, q0, q1, q2, q3, q4⟩, ()) := by
  rw [zva]
  refine (show q192 (M + 20) ⟨2, v0, v1, v2, q0, q1, q2, q3, q4⟩ V = zcA (M + 20) (M + 14 + 6) V [q0, q1, q2, q3, q4] 0 ⟨2, v0, v1, v2, q0, q1, q2, q3, q4⟩ [(0 : Int), (1 : Int), (2 : Int)] by kernel_rfl).trans ?_
  rw [l192 (M + 20) (M + 14) (by omega), show zaO (M + 20) (M + 20) V ((([(0 : Int), (1 : Int), (2 : Int)]).length : Nat) : Int) 0 ⟨2, v0, v1, v2, q0, q1, q2, q3, q4⟩ [(0 : Int), (1 : Int), (2 : Int)] = _ from zu9 (M + 20) (M + 16) V v0 v1 v2 q0 q1 q2 q3 q4]
  cases (bg q0 || bg q1 || bg q2 || bg q3 || bg q4) <;> cases badV 2 V v0 <;> cases badV 2 V v1 <;> cases badV 2 V v2 <;> rfl
theorem zqn (N : Nat) (A : Int -> Int -> Int -> Stp -> List Int -> Option (Int × Unit)) (V v0 v1 v2 : Int) (q0 q1 q2 q3 q4 : Fr) : zaJ N A V 1 0 ⟨3, v0, v1, v2, q0, q1, q2, q3, q4⟩ [(0 : Int)] = cond (true && badV 3 V v0) (some ((10 : Int), ())) (A V 1 1 ⟨3, v0, v1, v2, q0, q1, q2, q3, q4⟩ [(0 : Int)]) := by
  rw [← zaK]; kernel_rfl
theorem zvc (N : Nat) (A : Int -> Int -> Int -> Stp -> List Int -> Option (Int × Unit)) (V v0 v1 v2 : Int) (q0 q1 q2 q3 q4 : Fr) : zaJ N A V 1 1 ⟨3, v0, v1, v2, q0, q1, q2, q3, q4⟩ [(0 : Int)] = some ((0 : Int), ()) := by kernel_rfl
theorem zvd (N M : Nat) (V v0 v1 v2 : Int) (q0 q1 q2 q3 q4 : Fr) : zaO N (M + 4) V 1 0 ⟨3, v0, v1, v2, q0, q1, q2, q3, q4⟩ [(0 : Int)] = cond (badV 3 V v0) (some ((10 : Int), ())) (some ((0 : Int), ())) := by
  rw [zaq, zqn, Bool.true_and, zaq, zvc]
theorem zve (V v0 v1 v2 : Int) (q0 q1 q2 q3 q4 : Fr) : errS V ⟨3, v0, v1, v2, q0, q1, q2, q3, q4⟩ = cond (bg q0 || bg q1 || bg q2 || bg q3 || bg q4) 4 (cond (badV 3 V v0) 10 0) := by
  show cond (bg q0 || bg q1 || bg q2 || bg q3 || bg q4) 4 (cond (badN V ⟨3, v0, v1, v2, q0, q1, q2, q3, q4⟩) 10 0) = _
  rw [show badN V ⟨3, v0, v1, v2, q0, q1, q2, q3, q4⟩ = ((true && badV 3 V v0) || (false && badV 3 V v1) || (false && badV 3 V v2)) from rfl]
  simp only [Bool.true_and, Bool.false_and, Bool.or_false, Bool.false_or]
theorem zvf (M : Nat) (V v0 v1 v2 : Int) (q0 q1 q2 q3 q4 : Fr) : q192 (M + 20) ⟨3, v0, v1, v2, q0, q1, q2, q3, q4⟩ V = some (errS V ⟨3, v0, v1, v2, q0, q1, q2, q3, q4⟩, ()) := by
  rw [zve]
  refine (show q192 (M + 20) ⟨3, v0, v1, v2, q0, q1, q2, q3, q4⟩ V = zcA (M + 20) (M + 14 + 6) V [q0, q1, q2, q3, q4] 0 ⟨3, v0, v1, v2, q0, q1, q2, q3, q4⟩ [(0 : Int)] by kernel_rfl).trans ?_
  rw [l192 (M + 20) (M + 14) (by omega), show zaO (M + 20) (M + 20) V ((([(0 : Int)]).length : Nat) : Int) 0 ⟨3, v0, v1, v2, q0, q1, q2, q3, q4⟩ [(0 : Int)] = _ from zvd (M + 20) (M + 16) V v0 v1 v2 q0 q1 q2 q3 q4]
  cases (bg q0 || bg q1 || bg q2 || bg q3 || bg q4) <;> cases badV 3 V v0 <;> rfl
theorem zqo (N : Nat) (A : Int -> Int -> Int -> Stp -> List Int -> Option (Int × Unit)) (V v0 v1 v2 : Int) (q0 q1 q2 q3 q4 : Fr) : zaJ N A V 2 0 ⟨4, v0, v1, v2, q0, q1, q2, q3, q4⟩ [(0 : Int), (2 : Int)] = cond (true && badV 4 V v0) (some ((10 : Int), ())) (A V 2 1 ⟨4, v0, v1, v2, q0, q1, q2, q3, q4⟩ [(0 : Int), (2 : Int)]) := by
  rw [← zaK]; kernel_rfl
theorem zqp (N : Nat) (A : Int -> Int -> Int -> Stp -> List Int -> Option (Int × Unit)) (V v0 v1 v2 : Int) (q0 q1 q2 q3 q4 : Fr) : zaJ N A V 2 1 ⟨4, v0, v1, v2, q0, q1, q2, q3, q4⟩ [(0 : Int), (2 : Int)] = cond (true && badV 4 V v2) (some ((10 : Int), ())) (A V 2 2 ⟨4, v0, v1, v2, q0, q1, q2, q3, q4⟩ [(0 : Int), (2 : Int)]) := by
  rw [← zaK]; kernel_rfl
theorem zvg (N : Nat) (A : Int -> Int -> Int -> Stp -> List Int -> Option (Int × Unit)) (V v0 v1 v2 : Int) (q0 q1 q2 q3 q4 : Fr) : zaJ N A V 2 2 ⟨4, v0, v1, v2, q0, q1, q2, q3, q4⟩ [(0 : Int), (2 : Int)] = some ((0 : Int), ()) := by kernel_rfl
theorem zvh (N M : Nat) (V v0 v1 v2 : Int) (q0 q1 q2 q3 q4 : Fr) : zaO N (M + 4) V 2 0 ⟨4, v0, v1, v2, q0, q1, q2, q3, q4⟩ [(0 : Int), (2 : Int)] = cond (badV 4 V v0) (some ((10 : Int), ())) (cond (badV 4 V v2) (some ((10 : Int), ())) (some ((0 : Int), ()))) := by
  rw [zaq, zqo, Bool.true_and, zaq, zqp, Bool.true_and, zaq, zvg]
theorem zvi (V v0 v1 v2 : Int) (q0 q1 q2 q3 q4 : Fr) : errS V ⟨4, v0, v1, v2, q0, q1, q2, q3, q4⟩ = cond (bg q0 || bg q1 || bg q2 || bg q3 || bg q4) 4 (cond (badV 4 V v0 || badV 4 V v2) 10 0) := by
  show cond (bg q0 || bg q1 || bg q2 || bg q3 || bg q4) 4 (cond (badN V ⟨4, v0, v1, v2, q0, q1, q2, q3, q4⟩) 10 0) = _
  rw [show badN V ⟨4, v0, v1, v2, q0, q1, q2, q3, q4⟩ = ((true && badV 4 V v0) || (false && badV 4 V v1) || (true && badV 4 V v2)) from rfl]
  simp only [Bool.true_and, Bool.false_and, Bool.or_false, Bool.false_or]
theorem zvj (M : Nat) (V v0 v1 v2 : Int) (q0 q1 q2 q3 q4 : Fr) : q192 (M + 20) ⟨4, v0, v1, v2, q0, q1, q2, q3, q4⟩ V = some (errS V ⟨4, v0, v1, v2, q0, q1, q2, q3, q4⟩, ()) := by
  rw [zvi]
  refine (show q192 (M + 20) ⟨4, v0, v1, v2, q0, q1, q2, q3, q4⟩ V = zcA (M + 20) (M + 14 + 6) V [q0, q1, q2, q3, q4] 0 ⟨4, v0, v1, v2, q0, q1, q2, q3, q4⟩ [(0 : Int), (2 : Int)] by kernel_rfl).trans ?_
  rw [l192 (M + 20) (M + 14) (by omega), show zaO (M + 20) (M + 20) V ((([(0 : Int), (2 : Int)]).length : Nat) : Int) 0 ⟨4, v0, v1, v2, q0, q1, q2, q3, q4⟩ [(0 : Int), (2 : Int)] = _ from zvh (M + 20) (M + 16) V v0 v1 v2 q0 q1 q2 q3 q4]
  cases (bg q0 || bg q1 || bg q2 || bg q3 || bg q4) <;> cases badV 4 V v0 <;> cases badV 4 V v2 <;> rfl
theorem zqq (N : Nat) (A : Int -> Int -> Int -> Stp -> List Int -> Option (Int × Unit)) (V v0 v1 v2 : Int) (q0 q1 q2 q3 q4 : Fr) : zaJ N A V 3 0 ⟨5, v0, v1, v2, q0, q1, q2, q3, q4⟩ [(0 : Int), (1 : Int), (2 : Int)] = cond (true && badV 5 V v0) (some ((10 : Int), ())) (A V 3 1 ⟨5, v0, v1, v2, q0, q1, q2, q3, q4⟩ [(0 : Int), (1 : Int), (2 : Int)]) := by
  rw [← zaK]; kernel_rfl
theorem zqr (N : Nat) (A : Int -> Int -> Int -> Stp -> List Int -> Option (Int × Unit)) (V v0 v1 v2 : Int) (q0 q1 q2 q3 q4 : Fr) : zaJ N A V 3 1 ⟨5, v0, v1, v2, q0, q1, q2, q3, q4⟩ [(0 : Int), (1 : Int), (2 : Int)] = cond (true && badV 5 V v1) (some ((10 : Int), ())) (A V 3 2 ⟨5, v0, v1, v2, q0, q1, q2, q3, q4⟩ [(0 : Int), (1 : Int), (2 : Int)]) := by
  rw [← zaK]; kernel_rfl
theorem zqs (N : Nat) (A : Int -> Int -> Int -> Stp -> List Int -> Option (Int × Unit)) (V v0 v1 v2 : Int) (q0 q1 q2 q3 q4 : Fr) : zaJ N A V 3 2 ⟨5, v0, v1, v2, q0, q1, q2, q3, q4⟩ [(0 : Int), (1 : Int), (2 : Int)] = cond (true && badV 5 V v2) (some ((10 : Int), ())) (A V 3 3 ⟨5, v0, v1, v2, q0, q1, q2, q3, q4⟩ [(0 : Int), (1 : Int), (2 : Int)]) := by
  rw [← zaK]; kernel_rfl
theorem zvk (N : Nat) (A : Int -> Int -> Int -> Stp -> List Int -> Option (Int × Unit)) (V v0 v1 v2 : Int) (q0 q1 q2 q3 q4 : Fr) : zaJ N A V 3 3 ⟨5, v0, v1, v2, q0, q1, q2, q3, q4⟩ [(0 : Int), (1 : Int), (2 : Int)] = some ((0 : Int), ()) := by kernel_rfl
theorem zvl (N M : Nat) (V v0 v1 v2 : Int) (q0 q1 q2 q3 q4 : Fr) : zaO N (M + 4) V 3 0 ⟨5, v0, v1, v2, q0, q1, q2, q3, q4⟩ [(0 : Int), (1 : Int), (2 : Int)] = cond (badV 5 V v0) (some ((10 : Int), ())) (cond (badV 5 V v1) (some ((10 : Int), ())) (cond (badV 5 V v2) (some ((10 : Int), ())) (some ((0 : Int), ())))) := by
  rw [zaq, zqq, Bool.true_and, zaq, zqr, Bool.true_and, zaq, zqs, Bool.true_and, zaq, zvk]
theorem zvm (V v0 v1 v2 : Int) (q0 q1 q2 q3 q4 : Fr) : errS V ⟨5, v0, v1, v2, q0, q1, q2, q3, q4⟩ = cond (bg q0 || bg q1 || bg q2 || bg q3 || bg q4) 4 (cond (badV 5 V v0 || badV 5 V v1 || badV 5 V v2) 10 0) := by
  show cond (bg q0 || bg q1 || bg q2 || bg q3 || bg q4) 4 (cond (badN V ⟨5, v0, v1, v2, q0, q1, q2, q3, q4⟩) 10 0) = _
  rw [show badN V ⟨5, v0, v1, v2, q0, q1, q2, q3, q4⟩ = ((true && badV 5 V v0) || (true && badV 5 V v1) || (true && badV 5 V v2)) from rfl]
  simp only [Bool.true_and, Bool.false_and, Bool.or_false, Bool.false_or]
theorem zvn (M : Nat) (V v0 v1 v2 : Int) (q0 q1 q2 q3 q4 : Fr) : q192 (M + 20) ⟨5, v0, v1, v2, q0, q1, q2, q3, q4⟩ V = some (errS V ⟨5, v0, v1, v2, q0, q1, q2, q3, q4⟩, ()) := by
  rw [zvm]
  refine (show q192 (M + 20) ⟨5, v0, v1, v2, q0, q1, q2, q3, q4⟩ V = zcA (M + 20) (M + 14 + 6) V [q0, q1, q2, q3, q4] 0 ⟨5, v0, v1, v2, q0, q1, q2, q3, q4⟩ [(0 : Int), (1 : Int), (2 : Int)] by kernel_rfl).trans ?_
  rw [l192 (M + 20) (M + 14) (by omega), show zaO (M + 20) (M + 20) V ((([(0 : Int), (1 : Int), (2 : Int)]).length : Nat) : Int) 0 ⟨5, v0, v1, v2, q0, q1, q2, q3, q4⟩ [(0 : Int), (1 : Int), (2 : Int)] = _ from zvl (M + 20) (M + 16) V v0 v1 v2 q0 q1 q2 q3 q4]
  cases (bg q0 || bg q1 || bg q2 || bg q3 || bg q4) <;> cases badV 5 V v0 <;> cases badV 5 V v1 <;> cases badV 5 V v2 <;> rfl
theorem zqt (N : Nat) (A : Int -> Int -> Int -> Stp -> List Int -> Option (Int × Unit)) (V v0 v1 v2 : Int) (q0 q1 q2 q3 q4 : Fr) : zaJ N A V 2 0 ⟨6, v0, v1, v2, q0, q1, q2, q3, q4⟩ [(0 : Int), (1 : Int)] = cond (true && badV 6 V v0) (some ((10 : Int), ())) (A V 2 1 ⟨6, v0, v1, v2, q0, q1, q2, q3, q4⟩ [(0 : Int), (1 : Int)]) := by
  rw [← zaK]; kernel_rfl
theorem zqu (N : Nat) (A : Int -> Int -> Int -> Stp -> List Int -> Option (Int × Unit)) (V v0 v1 v2 : Int) (q0 q1 q2 q3 q4 : Fr) : zaJ N A V 2 1 ⟨6, v0, v1, v2, q0, q1, q2, q3, q4⟩ [(0 : Int), (1 : Int)] = cond (true && badV 6 V v1) (some ((10 : Int), ())) (A V 2 2 ⟨6, v0, v1, v2, q0, q1, q2, q3, q4⟩ [(0 : Int), (1 : Int)]) := by
  rw [← zaK]; kernel_rfl
theorem zvo (N : Nat) (A : Int -> Int -> Int -> Stp -> List Int -> Option (Int × Unit)) (V v0 v1 v2 : Int) (q0 q1 q2 q3 q4 : Fr) : zaJ N A V 2 2 ⟨6, v0, v1, v2, q0, q1, q2, q3, q4⟩ [(0 : Int), (1 : Int)] = some ((0 : Int), ()) := by kernel_rfl
theorem zvp (N M : Nat) (V v0 v1 v2 : Int) (q0 q1 q2 q3 q4 : Fr) : zaO N (M + 4) V 2 0 ⟨6, v0, v1, v2, q0, q1, q2, q3, q4⟩ [(0 : Int), (1 : Int)] = cond (badV 6 V v0) (some ((10 : Int), ())) (cond (badV 6 V v1) (some ((10 : Int), ())) (some ((0 : Int), ()))) := by
  rw [zaq, zqt, Bool.true_and, zaq, zqu, Bool.true_and, zaq, zvo]
theorem zvq (V v0 v1 v2 : Int) (q0 q1 q2 q3 q4 : Fr) : errS V ⟨6, v0, v1, v2, q0, q1, q2, q3, q4⟩ = cond (bg q0 || bg q1 || bg q2 || bg q3 || bg q4) 4 (cond (badV 6 V v0 || badV 6 V v1) 10 0) := by
  show cond (bg q0 || bg q1 || bg q2 || bg q3 || bg q4) 4 (cond (badN V ⟨6, v0, v1, v2, q0, q1, q2, q3, q4⟩) 10 0) = _
  rw [show badN V ⟨6, v0, v1, v2, q0, q1, q2, q3, q4⟩ = ((true && badV 6 V v0) || (true && badV 6 V v1) || (false && badV 6 V v2)) from rfl]
  simp only [Bool.true_and, Bool.false_and, Bool.or_false, Bool.false_or]
theorem zvr (M : Nat) (V v0 v1 v2 : Int) (q0 q1 q2 q3 q4 : Fr) : q192 (M + 20) ⟨6, v0, v1, v2, q0, q1, q2, q3, q4⟩ V = some (errS V ⟨6, v0, v1, v2, q0, q1, q2, q3, q4⟩, ()) := by
  rw [zvq]
  refine (show q192 (M + 20) ⟨6, v0, v1, v2, q0, q1, q2, q3, q4⟩ V = zcA (M + 20) (M + 14 + 6) V [q0, q1, q2, q3, q4] 0 ⟨6, v0, v1, v2, q0, q1, q2, q3, q4⟩ [(0 : Int), (1 : Int)] by kernel_rfl).trans ?_
  rw [l192 (M + 20) (M + 14) (by omega), show zaO (M + 20) (M + 20) V ((([(0 : Int), (1 : Int)]).length : Nat) : Int) 0 ⟨6, v0, v1, v2, q0, q1, q2, q3, q4⟩ [(0 : Int), (1 : Int)] = _ from zvp (M + 20) (M + 16) V v0 v1 v2 q0 q1 q2 q3 q4]
  cases (bg q0 || bg q1 || bg q2 || bg q3 || bg q4) <;> cases badV 6 V v0 <;> cases badV 6 V v1 <;> rfl
theorem zqv (N : Nat) (A : Int -> Int -> Int -> Stp -> List Int -> Option (Int × Unit)) (V v0 v1 v2 : Int) (q0 q1 q2 q3 q4 : Fr) : zaJ N A V 1 0 ⟨7, v0, v1, v2, q0, q1, q2, q3, q4⟩ [(0 : Int)] = cond (true && badV 7 V v0) (some ((10 : Int), ())) (A V 1 1 ⟨7, v0, v1, v2, q0, q1, q2, q3, q4⟩ [(0 : Int)]) := by
  rw [← zaK]; kernel_rfl
theorem zvs (N : Nat) (A : Int -> Int -> Int -> Stp -> List Int -> Option (Int × Unit)) (V v0 v1 v2 : Int) (q0 q1 q2 q3 q4 : Fr) : zaJ N A V 1 1 ⟨7, v0, v1, v2, q0, q1, q2, q3, q4⟩ [(0 : Int)] = some ((0 : Int), ()) := by kernel_rfl
theorem zvt (N M : Nat) (V v0 v1 v2 : Int) (q0 q1 q2 q3 q4 : Fr) : zaO N (M + 4) V 1 0 ⟨7, v0, v1, v2, q0, q1, q2, q3, q4⟩ [(0 : Int)] = cond (badV 7 V v0) (some ((10 : Int), ())) (some ((0 : Int), ())) := by
  rw [zaq, zqv, Bool.true_and, zaq, zvs]
theorem zvu (V v0 v1 v2 : Int) (q0 q1 q2 q3 q4 : Fr) : errS V ⟨7, v0, v1, v2, q0, q1, q2, q3, q4⟩ = cond (bg q0 || bg q1 || bg q2 || bg q3 || bg q4) 4 (cond (badV 7 V v0) 10 0) := by
  show cond (bg q0 || bg q1 || bg q2 || bg q3 || bg q4) 4 (cond (badN V ⟨7, v0, v1, v2, q0, q1, q2, q3, q4⟩) 10 0) = _
  rw [show badN V ⟨7, v0, v1, v2, q0, q1, q2, q3, q4⟩ = ((true && badV 7 V v0) || (false && badV 7 V v1) || (false && badV 7 V v2)) from rfl]
  simp only [Bool.true_and, Bool.false_and, Bool.or_false, Bool.false_or]
theorem zvv (M : Nat) (V v0 v1 v2 : Int) (q0 q1 q2 q3 q4 : Fr) : q192 (M + 20) ⟨7, v0, v1, v2, q0, q1, q2, q3, q4⟩ V = some (errS V ⟨7, v0, v1, v2, q0, q1, q2, q3, q4⟩, ()) := by
  rw [zvu]
  refine (show q192 (M + 20) ⟨7, v0, v1, v2, q0, q1, q2, q3, q4⟩ V = zcA (M + 20) (M + 14 + 6) V [q0, q1, q2, q3, q4] 0 ⟨7, v0, v1, v2, q0, q1, q2, q3, q4⟩ [(0 : Int)] by kernel_rfl).trans ?_
  rw [l192 (M + 20) (M + 14) (by omega), show zaO (M + 20) (M + 20) V ((([(0 : Int)]).length : Nat) : Int) 0 ⟨7, v0, v1, v2, q0, q1, q2, q3, q4⟩ [(0 : Int)] = _ from zvt (M + 20) (M + 16) V v0 v1 v2 q0 q1 q2 q3 q4]
  cases (bg q0 || bg q1 || bg q2 || bg q3 || bg q4) <;> cases badV 7 V v0 <;> rfl
theorem zqw (N : Nat) {k : Int} (h : k < 1 \/ 7 < k) : q217 N k = some ([], false, ()) := by
  unfold q217
  rw [zbb (show ¬ k = 1 by omega), zbb (show ¬ k = 2 by omega), zbb (show ¬ k = 3 by omega), zbb (show ¬ k = 4 by omega), zbb (show ¬ k = 5 by omega), zbb (show ¬ k = 6 by omega), zbb (show ¬ k = 7 by omega)]
  rfl
theorem zsE {N : Nat} (hN : 100 <= N) (V : Int) (s : Stp) : q192 N s V = some (errS V s, ()) := by
  obtain ⟨M, rfl⟩ : ∃ M, N = M + 20 := ⟨N - 20, by omega⟩
  by_cases hk : s.kind < 1 \/ 7 < s.kind
  . unfold q192 errS
    rw [zqw _ hk]
    simp only [bsm]
    rcases hk with hk | hk
    . rw [zaw hk]; rfl
    . rw [zaw hk, Bool.or_true]; rfl
  . obtain ⟨k, v0, v1, v2, q0, q1, q2, q3, q4⟩ := s
    simp only at hk
    have hk : k = 1 \/ k = 2 \/ k = 3 \/ k = 4 \/ k = 5 \/ k = 6 \/ k = 7 := by omega
    rcases hk with rfl | rfl | rfl | rfl | rfl | rfl | rfl
    . exact zu7 ..
    . exact zvb ..
    . exact zvf ..
    . exact zvj ..
    . exact zvn ..
    . exact zvr ..
    . exact zvv ..
theorem zvw (M : Nat) (v0 v1 v2 : Int) (q0 q1 q2 q3 q4 : Fr) : q108 (M + 8) ⟨1, v0, v1, v2, q0, q1, q2, q3, q4⟩ = some (zaF ⟨1, v0, v1, v2, q0, q1, q2, q3, q4⟩, 0, ()) := by kernel_rfl
theorem zvx (M : Nat) (v0 v1 v2 : Int) (q0 q1 q2 q3 q4 : Fr) : q108 (M + 8) ⟨2, v0, v1, v2, q0, q1, q2, q3, q4⟩ = some (zaF ⟨2, v0, v1, v2, q0, q1, q2, q3, q4⟩, 0, ()) := by kernel_rfl
theorem zvy (M : Nat) (v0 v1 v2 : Int) (q0 q1 q2 q3 q4 : Fr) : q108 (M + 8) ⟨3, v0, v1, v2, q0, q1, q2, q3, q4⟩ = some (zaF ⟨3, v0, v1, v2, q0, q1, q2, q3, q4⟩, 0, ()) := by kernel_rfl
theorem zvz (M : Nat) (v0 v1 v2 : Int) (q0 q1 q2 q3 q4 : Fr) : q108 (M + 8) ⟨4, v0, v1, v2, q0, q1, q2, q3, q4⟩ = some (zaF ⟨4, v0, v1, v2, q0, q1, q2, q3, q4⟩, 0, ()) := by kernel_rfl
theorem zvA (M : Nat) (v0 v1 v2 : Int) (q0 q1 q2 q3 q4 : Fr) : q108 (M + 8) ⟨5, v0, v1, v2, q0, q1, q2, q3, q4⟩ = some (zaF ⟨5, v0, v1, v2, q0, q1, q2, q3, q4⟩, 0, ()) := by kernel_rfl
theorem zvB (M : Nat) (v0 v1 v2 : Int) (q0 q1 q2 q3 q4 : Fr) : q108 (M + 8) ⟨6, v0, v1, v2, q0, q1, q2, q3, q4⟩ = some (zaF ⟨6, v0, v1, v2, q0, q1, q2, q3, q4⟩, 0, ()) := by kernel_rfl
theorem zvC (M : Nat) (v0 v1 v2 : Int) (q0 q1 q2 q3 q4 : Fr) : q108 (M + 8) ⟨7, v0, v1, v2, q0, q1, q2, q3, q4⟩ = some (zaF ⟨7, v0, v1, v2, q0, q1, q2, q3, q4⟩, 0, ()) := by kernel_rfl
theorem zsF {N : Nat} (hN : 100 <= N) {s : Stp} (h : 1 <= s.kind /\ s.kind <= 7) : q108 N s = some (zaF s, 0, ()) := by
  obtain ⟨M, rfl⟩ : ∃ M, N = M + 8 := ⟨N - 8, by omega⟩
  obtain ⟨k, v0, v1, v2, q0, q1, q2, q3, q4⟩ := s
  simp only at h
  have hk : k = 1 \/ k = 2 \/ k = 3 \/ k = 4 \/ k = 5 \/ k = 6 \/ k = 7 := by omega
  rcases hk with rfl | rfl | rfl | rfl | rfl | rfl | rfl
  . exact zvw ..
  . exact zvx ..
  . exact zvy ..
  . exact zvz ..
  . exact zvA ..
  . exact zvB ..
  . exact zvC ..
theorem zoL {n : Nat} {m : Int} (h : (n : Int) <= m) : eqI (n : Int) m = leI m (n : Int) := by
  by_cases e : (n : Int) = m
  . rw [zbz e, zee (by omega)]
  . rw [zbb e, zaD (by omega)]
theorem zlh {N : Nat} (hN : 100 <= N) {b : Bd} (h : BdI b) (s : Stp) : q114 N (b.V : Int) b.pb b.rw b.sm s = some ((b.doS s).1.out, (b.doS s).2.1, (b.doS s).2.2, ()) := by
  have i1 := h.v; have i2 := h.p; have i3 := h.r; have i4 := h.m
  have i5 := zi6 s
  unfold q114 Bd.doS
  rw [zsE hN, cond_false]
  simp only [bsm]
  cases h0 : eqI (errS b.V s) 0 with
  | false => rfl
  | true =>
    have hok := zks (of_decide_eq_true h0)
    rw [Bool.not_true, cond_false, zsF hN hok.1]
    simp only [bsm]
    have e1 : wr ((b.pb.length : Int) + (b.rw.length : Int)) = ((b.pb.length + b.rw.length : Nat) : Int) := by rw [zeD (by omega) (by omega)]; omega
    have e2 : wr (((b.pb.length + b.rw.length : Nat) : Int) + ((zaF s).length : Int)) = ((b.pb.length + b.rw.length + (zaF s).length : Nat) : Int) := by rw [zeD (by omega) (by omega)]; omega
    have e3 : wr (((b.V + 1 : Nat) : Int) - 1) = (b.V : Int) := by rw [zeD (by omega) (by omega)]; omega
    rw [zbz rfl, Bool.not_true, cond_false, e1, e2, zcd (by omega), e3, cond_true, zoL (n := b.V) (m := 200) (by omega), zoL (n := b.sm.length) (m := 200) (by omega), zoL (n := b.pb.length) (m := 8) (by omega)]
    simp only [List.length_cons, List.length_nil]
    rw [zaW (by omega), zaW (by omega), zaW (by omega)]
    simp only [mst2]
    cases ltI 64 ((b.pb.length + b.rw.length + (zaF s).length : Nat) : Int) <;> cases eqI s.kind 1 <;> cases leI 200 (b.V : Int) <;> cases eqI s.kind 6 <;> cases leI 200 (b.sm.length : Int) <;> cases eqI s.kind 7 <;> cases leI 8 (b.pb.length : Int) <;> rfl
theorem zvD (N : Nat) (A : Int -> Int -> Int -> List Row -> List Row -> Option (List Row × Unit)) (z : Int) (a b : List Row) : zbJ N A z 2 0 a b = cond (ltI (wr (z + (a.length : Int))) 0) none (A (wr (z + (a.length : Int))) 2 1 a b) := by kernel_rfl
theorem zvE (N : Nat) (A : Int -> Int -> Int -> List Row -> List Row -> Option (List Row × Unit)) (z : Int) (a b : List Row) : zbJ N A z 2 1 a b = cond (ltI (wr (z + (b.length : Int))) 0) none (A (wr (z + (b.length : Int))) 2 2 a b) := by kernel_rfl
theorem zvF (N : Nat) (A : Int -> Int -> Int -> List Row -> List Row -> Option (List Row × Unit)) (z : Int) (a b : List Row) : zbJ N A z 2 2 a b = Option.bind (zfg N z) fun rr => zbI N N 2 0 a b rr.1 := by kernel_rfl
theorem zvG (N : Nat) (A : Int -> Int -> List Row -> List Row -> List Row -> Option (List Row × Unit)) (a b l : List Row) : zbh N A 2 0 a b l = must (leN ((l.length + a.length) * 280) 140737488355328) (A 2 1 a b (l ++ a)) := by kernel_rfl
theorem zvH (N : Nat) (A : Int -> Int -> List Row -> List Row -> List Row -> Option (List Row × Unit)) (a b l : List Row) : zbh N A 2 1 a b l = must (leN ((l.length + b.length) * 280) 140737488355328) (A 2 2 a b (l ++ b)) := by kernel_rfl
theorem zvI (N : Nat) (A : Int -> Int -> List Row -> List Row -> List Row -> Option (List Row × Unit)) (a b l : List Row) : zbh N A 2 2 a b l = some (l, ()) := by kernel_rfl
theorem zsG {N : Nat} (hN : 100 <= N) {a b : List Row} (ha : a.length <= 1000) (hb : b.length <= 1000) : zfl N a b = some (a ++ b, ()) := by
  obtain ⟨M, rfl⟩ : ∃ M, N = M + 3 := ⟨N - 3, by omega⟩
  have e1 : wr (0 + (a.length : Int)) = (a.length : Int) := by rw [zeD (by omega) (by omega)]; omega
  have e2 : wr ((a.length : Int) + (b.length : Int)) = ((a.length + b.length : Nat) : Int) := by rw [zeD (by omega) (by omega)]; omega
  show zb5 (M + 3) (M + 3) 0 2 0 a b = _
  rw [zce, zvD, e1, zai (by omega), cond_false, zce, zvE, e2, zai (by omega), cond_false, zce, zvF]
  unfold zfg
  rw [zee (by omega), Int.toNat_natCast, zaW (by omega), Bool.true_and, mst2, bsm, zbV, zvG]
  simp only [List.length_nil, List.nil_append]
  rw [zaW (by omega), mst2, zbV, zvH, zaW (by omega), mst2, zbV, zvI]
theorem zsH {N : Nat} (hN : 100 <= N) {b : Bd} (h : BdI b) : q117 N (b.V : Int) b.pb b.rw b.sm = some (b.out, ((b.pb.length : Int), (b.V : Int), b.pb ++ b.rw, b.sm, ()), ()) := by
  have i2 := h.p; have i3 := h.r; have i4 := h.m
  unfold q117
  rw [cond_false, zsG hN (by omega) (by omega), bsm]
  unfold q199
  rw [zaW (by omega), mst2, bsm]
  rfl
theorem zq2 {N : Nat} {V P : Int} (rows : List Row) (sm : List Pr) (hb : sm.length < 1000000) : ∀ (l : List Pr) (i n : Nat), sm.drop i = l -> i + l.length = sm.length -> l.length < n -> zhb N n (i : Int) P V rows sm P V rows sm = some (true, ())
  | [], i, n + 1, hd, hl, hn => by
    rw [zgh]
    unfold zha
    rw [zai (by simp at hl; omega), cond_false]
  | x :: l, i, n + 1, hd, hl, hn => by
    simp only [List.length_cons] at hl hn
    rw [zgh]
    unfold zha
    have hi : i < sm.length := by omega
    rw [zaw (by omega), cond_true, zby, Bool.true_and, mst2, mst2, Int.toNat_natCast, (zsp hd hi).1]
    have he : eqL El.int [x.x, x.y] [x.x, x.y] = true := by
      unfold eqL eqL eqL eqE
      simp [eqI]
    rw [he, Bool.not_true, cond_false, zcd (by omega)]
    exact zq2 rows sm hb l (i + 1) n (zsp hd hi).2 (by omega) (by omega)
theorem zq3 {N : Nat} {V P : Int} (rows : List Row) (sm : List Pr) (hb : sm.length < 1000) (hr : rows.length < 1000) (hN : 2000 <= N) : ∀ (l : List Row) (i n : Nat), rows.drop i = l -> i + l.length = rows.length -> l.length < n -> zhd N n (i : Int) P V rows sm P V rows sm = some (true, ())
  | [], i, n + 1, hd, hl, hn => by
    rw [zgi]
    unfold zhc
    rw [zai (by simp at hl; omega), cond_false]
    exact zq2 rows sm (by omega) sm 0 N rfl (by omega) (by omega)
  | x :: l, i, n + 1, hd, hl, hn => by
    simp only [List.length_cons] at hl hn
    rw [zgi]
    unfold zhc
    have hi : i < rows.length := by omega
    rw [zaw (by omega), cond_true, zby, Bool.true_and, mst2, mst2, Int.toNat_natCast, (zi1 hd hi).1, zhg, Bool.not_true, cond_false, zcd (by omega)]
    exact zq3 rows sm hb hr hN l (i + 1) n (zi1 hd hi).2 (by omega) (by omega)
theorem zi7 {N : Nat} (hN : 2000 <= N) (P V : Int) (rows : List Row) (sm : List Pr) (hr : rows.length < 1000) (hb : sm.length < 1000) : q116 N P V rows sm P V rows sm = some (true, ()) := by
  unfold q116
  rw [zbz rfl, zbz rfl, zbz rfl, zbz rfl, Bool.not_true, cond_false, cond_false, cond_false, cond_false]
  exact zq3 rows sm hb hr hN rows 0 N rfl (by omega) (by omega)
end
section
def Bd.all (b : Bd) : List Stp -> Prop
  | [] => True
  | s :: l => (b.doS s).2.2 = 0 /\ Bd.all (b.doS s).1 l
def Bd.fin (b : Bd) : List Stp -> Bd
  | [] => b
  | s :: l => Bd.fin (b.doS s).1 l
theorem Bd.all_append : ∀ {l m : List Stp} {b : Bd}, b.all l -> (b.fin l).all m -> b.all (l ++ m)
  | [], _, _, _, h => h
  | _ :: _, _, _, h, h2 => ⟨h.1, Bd.all_append h.2 h2⟩
theorem Bd.fin_append : ∀ {l m : List Stp} {b : Bd}, b.fin (l ++ m) = (b.fin l).fin m
  | [], _, _ => rfl
  | _ :: l, _, _ => Bd.fin_append (l := l)
theorem BdI.fin {b : Bd} (h : BdI b) : ∀ l : List Stp, BdI (b.fin l)
  | [] => h
  | s :: l => BdI.fin (h.doS s) l
def PlS.bd (s : PlS) : Bd := ⟨s.vs.length, s.pb, s.rw, s.sm⟩
def Rep (s : PlS) : Prop := Bd.zero.all s.st /\ Bd.zero.fin s.st = s.bd
theorem zoM {l : List Stp} {b b' : Bd} {t : Stp} {x : Int} (h : Bd.zero.all l /\ Bd.zero.fin l = b) (ht : b.doS t = (b', x, 0)) : Bd.zero.all (l ++ [t]) /\ Bd.zero.fin (l ++ [t]) = b' := by
  refine ⟨Bd.all_append h.1 ?_, ?_⟩
  . rw [h.2]; exact ⟨by rw [ht], trivial⟩
  . rw [Bd.fin_append, h.2]; show (b.doS t).1 = b'; rw [ht]
theorem zoN {b : Bd} (h1 : b.pb.length + b.rw.length <= 64) (h4 : b.V < 200) : b.doS svar = (⟨b.V + 1, b.pb, b.rw, b.sm⟩, (b.V : Int), 0) := by
  rw [Bd.doS_ok (zsw _) (fun h => absurd h (by decide)) (by rw [show (zaF svar).length = 0 from rfl]; omega) (fun h => absurd h (by decide)) (fun _ => h4)]
  show ((⟨b.V + 1, b.pb, b.rw ++ [], b.sm⟩ : Bd), (b.V : Int), (0 : Int)) = _
  rw [List.append_nil]
structure Sz (s : PlS) : Prop where
  v : s.vs.length <= 100
  p : s.pb.length <= 3
  r : s.rw.length <= 50
  m : s.sm.length <= 100
theorem Sz.two {s : PlS} {n : Nat} {c : Fr} {t : Stp} (h : Sz (s.two n c t)) : s.vs.length + 1 <= 100 /\ s.pb.length <= 3 /\ s.rw.length + (zaF t).length <= 50 /\ s.sm.length <= 100 := by
  obtain ⟨h1, h2, h3, h4⟩ := h
  refine ⟨by simpa [PlS.two] using h1, h2, by simpa [PlS.two] using h3, ?_⟩
  unfold PlS.two at h4
  cases h6 : eqI t.kind 6 with
  | false => rw [h6] at h4; exact h4
  | true => rw [h6] at h4; simp at h4; omega
theorem Gate.sz {s s' : PlS} (h : Gate s s') (hz : Sz s') : Sz s := by
  cases h with
  | mul n x y k hx hy hk => obtain ⟨h1, h2, h3, h4⟩ := hz.two; exact ⟨by omega, h2, by omega, h4⟩
  | bool n k hk => obtain ⟨h1, h2, h3, h4⟩ := hz.two; exact ⟨by omega, h2, by omega, h4⟩
  | pow n x hx => obtain ⟨h1, h2, h3, h4⟩ := hz.two; exact ⟨by omega, h2, by omega, h4⟩
  | next n x y hx hy => obtain ⟨h1, h2, h3, h4⟩ := hz.two; exact ⟨by omega, h2, by omega, h4⟩
  | same n x hx => obtain ⟨h1, h2, h3, h4⟩ := hz.two; exact ⟨by omega, h2, by omega, h4⟩
  | pub n x hx hp =>
    obtain ⟨h1, h2, h3, h4⟩ := hz
    simp only [List.length_append, List.length_cons, List.length_nil] at h2
    exact ⟨h1, by omega, h3, h4⟩
  | skip n => exact ⟨hz.v, hz.p, hz.r, hz.m⟩
  | no n x hx =>
    obtain ⟨h1, h2, h3, h4⟩ := hz
    simp only [List.length_append] at h3
    exact ⟨h1, h2, by omega, h4⟩
theorem Plays.sz {s s' : PlS} (h : Plays s s') : Sz s' -> Sz s := by
  induction h with
  | refl s => exact id
  | step h1 _ ih => exact fun hz => h1.sz (ih hz)
theorem Rep.two {s : PlS} {n : Nat} {c : Fr} {t : Stp} (hz : Sz (s.two n c t)) (h : Rep s) (ht : okS ((s.vs.length + 1 : Nat) : Int) t) (k1 : t.kind ≠ 1) (k7 : t.kind ≠ 7) : Rep (s.two n c t) := by
  obtain ⟨z1, z2, z3, z4⟩ := hz.two
  have e1 := zoM h (zoN (b := s.bd) (by show s.pb.length + s.rw.length <= 64; omega) (by show s.vs.length < 200; omega))
  have e2 := Bd.doS_ok (b := ⟨s.bd.V + 1, s.bd.pb, s.bd.rw, s.bd.sm⟩) (s := t) ht (fun e => absurd e k7) (by show s.pb.length + s.rw.length + (zaF t).length <= 64; omega) (fun _ => by show s.sm.length < 200; omega) (fun e => absurd e k1)
  rw [zbb k1, zbb k7] at e2
  have e3 := zoM e1 e2
  unfold Rep
  have e4 : (s.two n c t).bd = ⟨s.bd.V + 1, s.bd.pb, s.bd.rw ++ zaF t, cond (eqI t.kind 6) (s.bd.sm ++ [⟨t.v0, t.v1⟩]) s.bd.sm⟩ := by
    unfold PlS.two PlS.bd
    simp
  rw [e4]
  exact e3
theorem PlI.sz {g : Nat} {s : PlS} (h : PlI g s) (hg : g <= 14) : Sz s := by
  have h1 := h.v; have h2 := h.p; have h3 := h.pp; have h4 := h.r; have h5 := h.m
  exact ⟨by omega, by omega, by omega, by omega⟩
end
section
def zdz (b : Bd) : (Int × Int × List Row × List Pr × Unit) := ((b.pb.length : Int), (b.V : Int), b.pb ++ b.rw, b.sm, ())
theorem zq4 {N : Nat} (hN : 100 <= N) {b : Bd} (h : BdI b) {R : Type} (f : ((Int × List Row × List Row × List Pr × Unit) × (Int × Int × List Row × List Pr × Unit) × Unit) -> Option R) : Option.bind (q117 N (b.V : Int) b.pb b.rw b.sm) f = f (b.out, zdz b, ()) := by
  rw [zsH hN h, bsm]; rfl
theorem zvJ {N : Nat} (hN : 100 <= N) {b : Bd} (h : BdI b) (s : Stp) {R : Type} (f : ((Int × List Row × List Row × List Pr × Unit) × Int × Int × Unit) -> Option R) : Option.bind (q114 N (b.V : Int) b.pb b.rw b.sm s) f = f ((b.doS s).1.out, (b.doS s).2.1, (b.doS s).2.2, ()) := by
  rw [zlh hN h, bsm]
theorem zvK {N : Nat} (hN : 2000 <= N) {b : Bd} (h : BdI b) {R : Type} (f : Bool × Unit -> Option R) : Option.bind (q116 N (b.pb.length : Int) (b.V : Int) (b.pb ++ b.rw) b.sm (b.pb.length : Int) (b.V : Int) (b.pb ++ b.rw) b.sm) f = f (true, ()) := by
  have h1 := h.r; have h2 := h.m
  rw [zi7 hN _ _ _ _ (by simp; omega) (by omega), bsm]
end
section
theorem zvL (N : Nat) (A : Int -> Int -> Int -> List Row -> List Pr -> Option (Int × Unit)) (a b : Int) (r : List Row) (s : List Pr) : zbc N A 1 a b r s = cond (ltI 2 (r.length : Int)) (A 2 a b r s) (some ((1 : Int), ())) := by kernel_rfl
theorem zvM (N : Nat) (A : Int -> Int -> Int -> List Row -> List Pr -> Option (Int × Unit)) (a b : Int) (r : List Row) (s : List Pr) : zbc N A 2 a b r s = cond (ltI 4 (r.length : Int)) (A 3 a b r s) (some ((2 : Int), ())) := by kernel_rfl
theorem zvN (N : Nat) (A : Int -> Int -> Int -> List Row -> List Pr -> Option (Int × Unit)) (a b : Int) (r : List Row) (s : List Pr) : zbc N A 3 a b r s = cond (ltI 8 (r.length : Int)) (A 4 a b r s) (some ((3 : Int), ())) := by kernel_rfl
theorem zvO (N : Nat) (A : Int -> Int -> Int -> List Row -> List Pr -> Option (Int × Unit)) (a b : Int) (r : List Row) (s : List Pr) : zbc N A 4 a b r s = cond (ltI 16 (r.length : Int)) (A 5 a b r s) (some ((4 : Int), ())) := by kernel_rfl
theorem zvP (N : Nat) (A : Int -> Int -> Int -> List Row -> List Pr -> Option (Int × Unit)) (a b : Int) (r : List Row) (s : List Pr) : zbc N A 5 a b r s = cond (ltI 32 (r.length : Int)) (A 6 a b r s) (some ((5 : Int), ())) := by kernel_rfl
theorem zvQ (N : Nat) (A : Int -> Int -> Int -> List Row -> List Pr -> Option (Int × Unit)) (a b : Int) (r : List Row) (s : List Pr) : zbc N A 6 a b r s = some ((6 : Int), ()) := by kernel_rfl
theorem zvR (N : Nat) (A : Int -> Int -> Int -> List Row -> List Pr -> Option (Int × Unit)) (a b : Int) (r : List Row) (s : List Pr) : zdy N A 1 a b r s = cond (ltI 2 (r.length : Int)) (A 2 a b r s) (some ((1 : Int), ())) := by kernel_rfl
theorem zvS (N : Nat) (A : Int -> Int -> Int -> List Row -> List Pr -> Option (Int × Unit)) (a b : Int) (r : List Row) (s : List Pr) : zdy N A 2 a b r s = cond (ltI 4 (r.length : Int)) (A 3 a b r s) (some ((2 : Int), ())) := by kernel_rfl
theorem zvT (N : Nat) (A : Int -> Int -> Int -> List Row -> List Pr -> Option (Int × Unit)) (a b : Int) (r : List Row) (s : List Pr) : zdy N A 3 a b r s = cond (ltI 8 (r.length : Int)) (A 4 a b r s) (some ((3 : Int), ())) := by kernel_rfl
theorem zvU (N : Nat) (A : Int -> Int -> Int -> List Row -> List Pr -> Option (Int × Unit)) (a b : Int) (r : List Row) (s : List Pr) : zdy N A 4 a b r s = cond (ltI 16 (r.length : Int)) (A 5 a b r s) (some ((4 : Int), ())) := by kernel_rfl
theorem zvV (N : Nat) (A : Int -> Int -> Int -> List Row -> List Pr -> Option (Int × Unit)) (a b : Int) (r : List Row) (s : List Pr) : zdy N A 5 a b r s = cond (ltI 32 (r.length : Int)) (A 6 a b r s) (some ((5 : Int), ())) := by kernel_rfl
theorem zvW (N : Nat) (A : Int -> Int -> Int -> List Row -> List Pr -> Option (Int × Unit)) (a b : Int) (r : List Row) (s : List Pr) : zdy N A 6 a b r s = some ((6 : Int), ()) := by kernel_rfl
theorem zqx {N : Nat} (hN : 100 <= N) (a b : Int) (r : List Row) (s : List Pr) : ∃ x : Int, q120 N a b r s = some (x, ()) /\ q121 N a b r s = some (x, ()) := by
  obtain ⟨M, rfl⟩ : ∃ M, N = M + 6 := ⟨N - 6, by omega⟩
  have e1 : q120 (M + 6) a b r s = zcB (M + 6) (M + 6) 1 a b r s := rfl
  have e2 : q121 (M + 6) a b r s = zhe (M + 6) (M + 6) 1 a b r s := rfl
  rw [e1, e2, zaY, zvL, zaY, zvM, zaY, zvN, zaY, zvO, zaY, zvP, zaY, zvQ, zbL, zvR, zbL, zvS, zbL, zvT, zbL, zvU, zbL, zvV, zbL, zvW]
  cases ltI 2 (r.length : Int) <;> cases ltI 4 (r.length : Int) <;> cases ltI 8 (r.length : Int) <;> cases ltI 16 (r.length : Int) <;> cases ltI 32 (r.length : Int) <;> exact ⟨_, rfl, rfl⟩
def at27 {R : Type} (A : (List Stp) -> Int -> Int -> Int -> (List Row) -> (List Row) -> (List Pr) -> (List Row) -> (List Row) -> (List Pr) -> R) (l : List Stp) (i : Int) (a b : Bd) : R :=
  A l i (a.V : Int) (b.V : Int) a.pb a.rw a.sm b.pb b.rw b.sm
abbrev Lp27 := (List Stp) -> Int -> Int -> Int -> (List Row) -> (List Row) -> (List Pr) -> (List Row) -> (List Row) -> (List Pr) -> Option (Bool × Unit)
theorem zvX {N : Nat} (hN : 100 <= N) {b : Bd} (h : BdI b) (s : Stp) {R : Type} (f : ((Int × List Row × List Row × List Pr × Unit) × Int × Int × Unit) -> Option R) : Option.bind (q115 N (b.V : Int) b.pb b.rw b.sm s) f = f ((b.doS s).1.out, (b.doS s).2.1, (b.doS s).2.2, ()) := by
  rw [zqj hN h, bsm]
theorem zvY {N : Nat} {b : Bd} (h : BdI b) {R : Type} (f : (((Int × List Row × List Row × Unit) × Nat) × (Int × Int × List Row × List Pr × Unit) × Unit) -> Option R) : Option.bind (zdo N (b.V : Int) b.pb b.rw b.sm) f = f ((((b.V : Int), b.pb, b.rw, ()), b.sm.length), zdz b, ()) := by
  have h1 := h.r; have h2 := h.m; have h3 := h.p
  unfold zdo
  rw [zaW (by omega), zaW (by omega), mst2, mst2, bsm]
  rfl
theorem zsI (N : Nat) (A : Lp27) (l : List Stp) (i : Nat) (a b : Bd) (hi : i < l.length) :
    at27 (zkp N A) l (i : Int) a b = Option.bind (q114 N (a.V : Int) a.pb a.rw a.sm (l.getD i ⟨0, 0, 0, 0, .zero, .zero, .zero, .zero, .zero⟩)) fun rr8 => Option.bind (q115 N (b.V : Int) b.pb b.rw b.sm (l.getD i ⟨0, 0, 0, 0, .zero, .zero, .zero, .zero, .zero⟩)) fun rr9 => cond (!eqI rr8.2.1 rr9.2.1) (some (false, ())) (cond (!eqI rr8.2.2.1 rr9.2.2.1) (some (false, ()))
      (Option.bind (q117 N rr8.1.1 rr8.1.2.1 rr8.1.2.2.1 rr8.1.2.2.2.1) fun rr10 => Option.bind (zdo N rr9.1.1 rr9.1.2.1 rr9.1.2.2.1 rr9.1.2.2.2.1) fun rr11 => Option.bind (q116 N rr10.2.1.1 rr10.2.1.2.1 rr10.2.1.2.2.1 rr10.2.1.2.2.2.1 rr11.2.1.1 rr11.2.1.2.1 rr11.2.1.2.2.1 rr11.2.1.2.2.2.1) fun rr12 => cond (!rr12.1) (some (false, ()))
        (A l (wr ((i : Int) + 1)) rr10.1.1 rr11.1.1.1 rr10.1.2.1 rr10.1.2.2.1 rr10.1.2.2.2.1 rr11.1.1.2.1 rr11.1.1.2.2.1 rr11.2.1.2.2.2.1))) := by
  unfold at27 zkp
  rw [zaw (show (i : Int) < (l.length : Int) by omega), cond_true, zby]
  simp only [Bool.and_self, mst2, Int.toNat_natCast]
theorem zvZ (N : Nat) (A : Lp27) (l : List Stp) (a b : Bd) :
    at27 (zkp N A) l (l.length : Int) a b = Option.bind (q117 N (a.V : Int) a.pb a.rw a.sm) fun rr0 => Option.bind (zei N svar) fun rr1 => Option.bind (q114 N 0 [] [] [] svar) fun rr2 => Option.bind (q119 N rr0.2.1.1 rr0.2.1.2.1 rr0.2.1.2.2.1 rr0.2.1.2.2.2.1) fun rr3 =>
      cond (eqI rr3.1 0) (Option.bind (q120 N rr0.2.1.1 rr0.2.1.2.1 rr0.2.1.2.2.1 rr0.2.1.2.2.2.1) fun rr4 => Option.bind (q121 N rr0.2.1.1 rr0.2.1.2.1 rr0.2.1.2.2.1 rr0.2.1.2.2.2.1) fun rr5 => cond (eqI rr4.1 rr5.1) (cond (eqI rr1.2.1 1) (Option.bind (zej N) fun rr6 => Option.bind (q116 N rr6.1.1 rr6.1.2.1 rr6.1.2.2.1 rr6.1.2.2.2.1 0 0 [] []) fun rr7 =>
        cond rr7.1 (cond (eqI rr2.2.1 0) (some (eqI rr2.2.2.1 0, ())) (some (false, ()))) (some (false, ()))) (some (false, ()))) (some (false, ()))) (some (false, ())) := by
  unfold at27 zkp
  rw [zai (by omega), cond_false]
  rfl
theorem zq5 {N : Nat} (hN : 2000 <= N) (l : List Stp) (hl : l.length <= 90) : ∀ (k i n : Nat) (c : Bd), i + k = l.length -> k < n -> BdI c -> at27 (zmi N n) l (i : Int) c c = some (true, ())
  | 0, i, n + 1, c, hi, hk, h => by
    obtain rfl : i = l.length := by omega
    have h1 := h.r; have h2 := h.m
    refine (zvZ N (zmi N n) l c c).trans ?_
    rw [zq4 (by omega) h]
    have e1 : zei N svar = some (0, 1, ()) := rfl
    have e2 : q114 N 0 [] [] [] svar = some ((⟨1, [], [], []⟩ : Bd).out, 0, 0, ()) := by
      have := zlh (N := N) (by omega) Bd.zero_inv svar
      rw [zoN (b := Bd.zero) (Nat.zero_le _) (by decide)] at this
      exact this
    have e3 : q119 N (zdz c).1 (zdz c).2.1 (zdz c).2.2.1 (zdz c).2.2.2.1 = some (0, ()) := by
      have := zsu (N := N) hN (c.pb.length : Int) (c.V : Int) (c.pb ++ c.rw) c.sm (by simp; omega) (by omega)
      rw [h.good.may] at this
      exact this
    obtain ⟨x, e4, e5⟩ := zqx (N := N) (by omega) (zdz c).1 (zdz c).2.1 (zdz c).2.2.1 (zdz c).2.2.2.1
    have e6 : q116 N 0 0 [] [] 0 0 [] [] = some (true, ()) := zi7 hN 0 0 [] [] (by decide) (by decide)
    have e7 : zej N = some ((0, 0, [], [], ()), ()) := rfl
    simp only [e1, e2, e3, e4, e5, e6, e7, bsm, zbz rfl, cond_true]
  | k + 1, i, n + 1, c, hi, hk, h => by
    have hlt : i < l.length := by omega
    have hd := h.doS (l.getD i ⟨0, 0, 0, 0, .zero, .zero, .zero, .zero, .zero⟩)
    have ih := zq5 hN l hl k (i + 1) n (c.doS (l.getD i ⟨0, 0, 0, 0, .zero, .zero, .zero, .zero, .zero⟩)).1 (by omega) (by omega) hd
    refine (zsI N (zmi N n) l i c c hlt).trans ?_
    rw [zvJ (by omega) h]
    refine (zvX (b := c) (by omega) h _ _).trans ?_
    simp only
    rw [zbz rfl, zbz rfl, Bool.not_true, cond_false, cond_false]
    refine (zq4 (b := (c.doS (l.getD i ⟨0, 0, 0, 0, .zero, .zero, .zero, .zero, .zero⟩)).1) (by omega) hd _).trans ?_
    refine (zvY (b := (c.doS (l.getD i ⟨0, 0, 0, 0, .zero, .zero, .zero, .zero, .zero⟩)).1) hd _).trans ?_
    refine (zvK (b := (c.doS (l.getD i ⟨0, 0, 0, 0, .zero, .zero, .zero, .zero, .zero⟩)).1) hN hd _).trans ?_
    rw [Bool.not_true, cond_false, zcd (by omega)]
    exact ih
theorem zsJ (l : List Stp) : q27 2000 l = some (true, ()) := by
  unfold q27
  rw [zuX, bsm]
  show cond false (some (false, ())) _ = some (true, ())
  rw [cond_false]
  by_cases h : 90 < l.length
  . rw [zaw (by omega), cond_true]
  . rw [zai (by omega), cond_false]
    exact zq5 (N := 2000) (Nat.le_refl _) l (by omega) l.length 0 2000 Bd.zero (by omega) (by omega) Bd.zero_inv
end
section
open Go.ChangeShapes Go.WideShapes Go.ChangeAt Go.RowKit
def zv0 (P : Program) (k : K) (t : TypeId) : Prop :=
  ∀ (H : Type) (enc : TypeId × Value -> H) (W : World) (base : Nat) (v : Value) (d : DataW H) (p : List MemPlace), Value.okWide P W .any base t v -> DataW.Trod enc P W 0 (fun _ => true) true t v d p ->
    ∃ x : k.T, zgE W (fun b => b < W.heap.size) (k.enc x) v
theorem zgj {P : Program} {H : Type} {enc : TypeId × Value -> H} {W : World} {base : Nat} {sp : Nat -> Bool} {hd : Bool} : ∀ {ts : List TypeId} {vs : List Value} {ds : List (DataW H)} {p : List MemPlace}, DataW.TrodAll enc P W base sp hd ts vs ds p -> ds.length = ts.length
  | [], [], [], _, _ => rfl
  | _ :: _, _ :: _, _ :: _, _, ⟨_, _, _, h, _⟩ => by simp [zgj h]
  | [], _ :: _, _, _, h => by cases h
  | [], [], _ :: _, _, h => by cases h
  | _ :: _, [], _, _, h => by cases h
  | _ :: _, _ :: _, [], _, h => by cases h
structure NumEl where
  e : El
  k : IntKind
  of : Int -> e.T
  one : e.size = 1
  val : ∀ n, (Lit.int k n).wf = true -> ∃ c, e.toC (of n) = [c] /\ c.val = some (.int k n)
theorem zqy {P : Program} (hlaid : laidOutB P = true) {H : Type} {enc : TypeId × Value -> H} {fn : Func} {s : ChangeSpec} {apart fresh : Bool} {W W' : World} {args : Array Value} {ds gs : List (DataW H)} {before : List MemPlace} {tb : TypeId}
    (hread : ∀ t ∈ fn.params.toList, P.readableRec t = true /\ t < P.types.size) (hvars : s.vars = []) (hres : fn.resultTypes = #[tb]) (htb : P.underlying tb = some .bool)
    (hspec : s.fn H (ds ++ []) = { results := [.lit (.bool true)], args := ds })
    (hW : DataW.Whole enc P fn.params.toList s.vars apart W args.toList ds gs before) (hk : Kept W W') : s.post enc P fn apart fresh false false W args (.bool true) W' := by
  have hW' := hW
  obtain ⟨p, q, hA, hV, rfl, hz, hn⟩ := hW'
  rw [hvars] at hV
  obtain ⟨rfl, rfl⟩ := trodVars_none hV
  have hlt : ∀ x ∈ p, x.block < W.heap.size := fun x hx => hW.lt x (by simp [hx])
  have hbelow : Below W.heap.size W W' := ⟨hk.os, hk.tape, hk.output, hk.size, hk.block⟩
  have hargs : ∀ {ts : List TypeId} {vs : List Value} {ds : List (DataW H)} {p : List MemPlace}, (∀ t ∈ ts, P.readableRec t = true /\ t < P.types.size) -> DataW.TrodAll enc P W 0 (fun _ => true) true ts vs ds p -> (∀ x ∈ p, x.block < W.heap.size) ->
      DataW.TrodAll enc P W' 0 (fun b => decide (b < W.heap.size)) true ts vs ds p := by
    intro ts
    induction ts with
    | nil => intro vs ds p _ h _; cases vs <;> cases ds <;> first | exact h | exact h.elim
    | cons t ts ih =>
      intro vs ds p hr h hl
      cases vs with
      | nil => cases ds <;> exact h.elim
      | cons v vs => cases ds with
        | nil => exact h.elim
        | cons d ds =>
          obtain ⟨p1, q1, h1, h2, rfl⟩ := h
          exact ⟨p1, q1, Below.trod hlaid (hr t (by simp)).1 (hr t (by simp)).2 h1 hbelow (fun x hx => hl x (by simp [hx])), ih (fun t ht => hr t (by simp [ht])) h2 (fun x hx => hl x (by simp [hx])), rfl⟩
  have hkeep : W.keptBut W' (fun _ => False) := by
    refine ⟨hk.os, hk.output, fun i hi => ?_⟩
    rw [hk.block i hi]
    cases hb : W.heap[i]? with
    | none => trivial
    | some o => cases o <;> simp
  refine ⟨ds, [], p ++ [], [], p, [], hW, ?_, ?_, ?_, World.keptBut_mono (fun _ h => h.elim) hkeep, fun h => by cases h⟩
  . rw [hspec, hres]
    refine ⟨[], [], ⟨1, ?_⟩, rfl, rfl⟩
    simp [DataW.trod, htb, Value.cells, Value.resultList]
  . rw [hspec]
    exact hargs hread hA hlt
  . rw [hspec, hvars]
    rfl
end
section
open Go.ChangeShapes Go.WideShapes Go.ChangeAt Go.RowKit
theorem own : ownKnob Try.prog.godebug = none := by kernel_rfl
theorem laid : laidOutB Try.pinned.checked.prog = true := by kernel_rfl
theorem zxm : mapsRowed Try.pinned.checked.prog = true := by kernel_rfl
theorem zxn : Try.pinned.checked.prog.stopsHeard = true := by kernel_rfl
theorem zmk : Try.pinned.checked.prog.mayEnter = true := zmq
end
end Go.Proofs.Ytgimohchocjgcaa.V
