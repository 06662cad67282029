import Derived.Test.YtgimohchocjgcaaVBQ1
import Derived.Test.YtgimohchocjgcaaVBC1
import Derived.KernelRfl
import Derived.Test.YtgimohchocjgcaaVWB13
import Derived.Test.YtgimohchocjgcaaVME
import Derived.WalkKit
import Derived.ProofKit
import Derived.OpenShut
import Derived.Carry
import Derived.ChangeSlices
import Derived.Test.YtgimohchocjgcaaVRW
set_option linter.unusedVariables false
set_option linter.unusedSimpArgs false
namespace Go.Proofs.Ytgimohchocjgcaa.V
section
theorem zxS : q112 2000 = some (true, ()) := by kernel_rfl
theorem zxT (N : Nat) (A : Int -> List Fr -> Int -> Stp -> List Int -> Option (Int × Unit)) (V : Int) (q0 q1 q2 q3 q4 : Fr) (s : Stp) (l : List Int) : zdE N A V [q0, q1, q2, q3, q4] 0 s l = Option.bind (q79 N q0) fun rr => cond (!rr.1) (some ((4 : Int), ())) (A V [q0, q1, q2, q3, q4] 1 s l) := by kernel_rfl
theorem zxU (N : Nat) (A : Int -> List Fr -> Int -> Stp -> List Int -> Option (Int × Unit)) (V : Int) (q0 q1 q2 q3 q4 : Fr) (s : Stp) (l : List Int) : zdE N A V [q0, q1, q2, q3, q4] 1 s l = Option.bind (q79 N q1) fun rr => cond (!rr.1) (some ((4 : Int), ())) (A V [q0, q1, q2, q3, q4] 2 s l) := by kernel_rfl
theorem zxV (N : Nat) (A : Int -> List Fr -> Int -> Stp -> List Int -> Option (Int × Unit)) (V : Int) (q0 q1 q2 q3 q4 : Fr) (s : Stp) (l : List Int) : zdE N A V [q0, q1, q2, q3, q4] 2 s l = Option.bind (q79 N q2) fun rr => cond (!rr.1) (some ((4 : Int), ())) (A V [q0, q1, q2, q3, q4] 3 s l) := by kernel_rfl
theorem zxW (N : Nat) (A : Int -> List Fr -> Int -> Stp -> List Int -> Option (Int × Unit)) (V : Int) (q0 q1 q2 q3 q4 : Fr) (s : Stp) (l : List Int) : zdE N A V [q0, q1, q2, q3, q4] 3 s l = Option.bind (q79 N q3) fun rr => cond (!rr.1) (some ((4 : Int), ())) (A V [q0, q1, q2, q3, q4] 4 s l) := by kernel_rfl
theorem zxX (N : Nat) (A : Int -> List Fr -> Int -> Stp -> List Int -> Option (Int × Unit)) (V : Int) (q0 q1 q2 q3 q4 : Fr) (s : Stp) (l : List Int) : zdE N A V [q0, q1, q2, q3, q4] 4 s l = Option.bind (q79 N q4) fun rr => cond (!rr.1) (some ((4 : Int), ())) (A V [q0, q1, q2, q3, q4] 5 s l) := by kernel_rfl
theorem zxY (N : Nat) (A : Int -> List Fr -> Int -> Stp -> List Int -> Option (Int × Unit)) (V : Int) (q0 q1 q2 q3 q4 : Fr) (s : Stp) (l : List Int) : zdE N A V [q0, q1, q2, q3, q4] 5 s l = zaW N N V (l.length : Int) 0 s l := by kernel_rfl
theorem l192 (N M : Nat) (hN : 10 < N) (V : Int) (q0 q1 q2 q3 q4 : Fr) (s : Stp) (l : List Int) : zcD N (M + 6) V [q0, q1, q2, q3, q4] 0 s l = cond (bg q0 || bg q1 || bg q2 || bg q3 || bg q4) (some ((4 : Int), ())) (zaW N N V (l.length : Int) 0 s l) := by
  have key : ∀ (q : Fr) (X : Option (Int × Unit)), (Option.bind (q79 N q) fun rr => cond (!rr.1) (some ((4 : Int), ())) X) = cond (bg q) (some ((4 : Int), ())) X := fun q X => by
    rw [zxq hN]; rfl
  rw [zbM, zxT, key, zbM, zxU, key, zbM, zxV, key, zbM, zxW, key, zbM, zxX, key, zbM, zxY, zia, zia, zia, zia]
theorem zxZ (N : Nat) (A : Int -> Int -> Int -> Stp -> List Int -> Option (Int × Unit)) (V v0 v1 v2 : Int) (q0 q1 q2 q3 q4 : Fr) : zaQ N A V 0 0 ⟨1, v0, v1, v2, q0, q1, q2, q3, q4⟩ [] = some ((0 : Int), ()) := by kernel_rfl
theorem zx0 (N M : Nat) (V v0 v1 v2 : Int) (q0 q1 q2 q3 q4 : Fr) : zaW N (M + 4) V 0 0 ⟨1, v0, v1, v2, q0, q1, q2, q3, q4⟩ [] = some ((0 : Int), ()) := by
  rw [zau, zxZ]
theorem zx1 (V v0 v1 v2 : Int) (q0 q1 q2 q3 q4 : Fr) : errS V ⟨1, v0, v1, v2, q0, q1, q2, q3, q4⟩ = cond (bg q0 || bg q1 || bg q2 || bg q3 || bg q4) 4 (cond (false) 10 0) := by
  show cond (bg q0 || bg q1 || bg q2 || bg q3 || bg q4) 4 (cond (badN V ⟨1, v0, v1, v2, q0, q1, q2, q3, q4⟩) 10 0) = _
  rw [show badN V ⟨1, v0, v1, v2, q0, q1, q2, q3, q4⟩ = ((false && badV 1 V v0) || (false && badV 1 V v1) || (false && badV 1 V v2)) from rfl]
  simp only [Bool.true_and, Bool.false_and, Bool.or_false, Bool.false_or]
theorem zx2 (M : Nat) (V v0 v1 v2 : Int) (q0 q1 q2 q3 q4 : Fr) : q192 (M + 20) ⟨1, v0, v1, v2, q0, q1, q2, q3, q4⟩ V = some (errS V ⟨1, v0, v1, v2, q0, q1, q2, q3, q4⟩, ()) := by
  rw [zx1]
  refine (show q192 (M + 20) ⟨1, v0, v1, v2, q0, q1, q2, q3, q4⟩ V = zcD (M + 20) (M + 14 + 6) V [q0, q1, q2, q3, q4] 0 ⟨1, v0, v1, v2, q0, q1, q2, q3, q4⟩ [] by kernel_rfl).trans ?_
  rw [l192 (M + 20) (M + 14) (by omega), show zaW (M + 20) (M + 20) V ((([]).length : Nat) : Int) 0 ⟨1, v0, v1, v2, q0, q1, q2, q3, q4⟩ [] = _ from zx0 (M + 20) (M + 16) V v0 v1 v2 q0 q1 q2 q3 q4]
  cases (bg q0 || bg q1 || bg q2 || bg q3 || bg q4) <;> rfl
theorem zsl (N : Nat) (A : Int -> Int -> Int -> Stp -> List Int -> Option (Int × Unit)) (V v0 v1 v2 : Int) (q0 q1 q2 q3 q4 : Fr) : zaQ N A V 3 0 ⟨2, v0, v1, v2, q0, q1, q2, q3, q4⟩ [(0 : Int), (1 : Int), (2 : Int)] = cond (true && badV 2 V v0) (some ((10 : Int), ())) (A V 3 1 ⟨2, v0, v1, v2, q0, q1, q2, q3, q4⟩ [(0 : Int), (1 : Int), (2 : Int)]) := by
  rw [← za7]; kernel_rfl
theorem zsm (N : Nat) (A : Int -> Int -> Int -> Stp -> List Int -> Option (Int × Unit)) (V v0 v1 v2 : Int) (q0 q1 q2 q3 q4 : Fr) : zaQ N A V 3 1 ⟨2, v0, v1, v2, q0, q1, q2, q3, q4⟩ [(0 : Int), (1 : Int), (2 : Int)] = cond (true && badV 2 V v1) (some ((10 : Int), ())) (A V 3 2 ⟨2, v0, v1, v2, q0, q1, q2, q3, q4⟩ [(0 : Int), (1 : Int), (2 : Int)]) := by
  rw [← za7]; kernel_rfl
theorem zsn (N : Nat) (A : Int -> Int -> Int -> Stp -> List Int -> Option (Int × Unit)) (V v0 v1 v2 : Int) (q0 q1 q2 q3 q4 : Fr) : zaQ N A V 3 2 ⟨2, v0, v1, v2, q0, q1, q2, q3, q4⟩ [(0 : Int), (1 : Int), (2 : Int)] = cond (true && badV 2 V v2) (some ((10 : Int), ())) (A V 3 3 ⟨2, v0, v1, v2, q0, q1, q2, q3, q4⟩ [(0 : Int), (1 : Int), (2 : Int)]) := by
  rw [← za7]; kernel_rfl
theorem zx3 (N : Nat) (A : Int -> Int -> Int -> Stp -> List Int -> Option (Int × Unit)) (V v0 v1 v2 : Int) (q0 q1 q2 q3 q4 : Fr) : zaQ N A V 3 3 ⟨2, v0, v1, v2, q0, q1, q2, q3, q4⟩ [(0 : Int), (1 : Int), (2 : Int)] = some ((0 : Int), ()) := by kernel_rfl
theorem zx4 (N M : Nat) (V v0 v1 v2 : Int) (q0 q1 q2 q3 q4 : Fr) : zaW N (M + 4) V 3 0 ⟨2, v0, v1, v2, q0, q1, q2, q3, q4⟩ [(0 : Int), (1 : Int), (2 : Int)] = cond (badV 2 V v0) (some ((10 : Int), ())) (cond (badV 2 V v1) (some ((10 : Int), ())) (cond (badV 2 V v2) (some ((10 : Int), ())) (some ((0 : Int), ())))) := by
  rw [zau, zsl, Bool.true_and, zau, zsm, Bool.true_and, zau, zsn, Bool.true_and, zau, zx3]
theorem zx5 (V v0 v1 v2 : Int) (q0 q1 q2 q3 q4 : Fr) : errS V ⟨2, v0, v1, v2, q0, q1, q2, q3, q4⟩ = cond (bg q0 || bg q1 || bg q2 || bg q3 || bg q4) 4 (cond (badV 2 V v0 || badV 2 V v1 || badV 2 V v2) 10 0) := by
  show cond (bg q0 || bg q1 || bg q2 || bg q3 || bg q4) 4 (cond (badN V ⟨2, v0, v1, v2, q0, q1, q2, q3, q4⟩) 10 0) = _
  rw [show badN V ⟨2, v0, v1, v2, q0, q1, q2, q3, q4⟩ = ((true && badV 2 V v0) || (true && badV 2 V v1) || (true && badV 2 V v2)) from rfl]
  simp only [Bool.true_and, Bool.false_and, Bool.or_false, Bool.false_or]
theorem zx6 (M : Nat) (V v0 v1 v2 : Int) (q0 q1 q2 q3 q4 : Fr) : q192 (M + 20) ⟨2, v0, v1, v2, q0, q1, q2, q3, q4⟩ V = some (errS V ⟨2, v0, v1, v2, q0, q1, q2, q3, q4⟩, ()) := by
  rw [zx5]
  refine (show q192 (M + 20) ⟨2, v0, v1, v2, q0, q1, q2, q3, q4⟩ V = zcD (M + 20) (M + 14 + 6) V [q0, q1, q2, q3, q4] 0 ⟨2, v0, v1, v2, q0, q1, q2, q3, q4⟩ [(0 : Int), (1 : Int), (2 : Int)] by kernel_rfl).trans ?_
  rw [l192 (M + 20) (M + 14) (by omega), show zaW (M + 20) (M + 20) V ((([(0 : Int), (1 : Int), (2 : Int)]).length : Nat) : Int) 0 ⟨2, v0, v1, v2, q0, q1, q2, q3, q4⟩ [(0 : Int), (1 : Int), (2 : Int)] = _ from zx4 (M + 20) (M + 16) V v0 v1 v2 q0 q1 q2 q3 q4]
  cases (bg q0 || bg q1 || bg q2 || bg q3 || bg q4) <;> cases badV 2 V v0 <;> cases badV 2 V v1 <;> cases badV 2 V v2 <;> rfl
theorem zso (N : Nat) (A : Int -> Int -> Int -> Stp -> List Int -> Option (Int × Unit)) (V v0 v1 v2 : Int) (q0 q1 q2 q3 q4 : Fr) : zaQ N A V 1 0 ⟨3, v0, v1, v2, q0, q1, q2, q3, q4⟩ [(0 : Int)] = cond (true && badV 3 V v0) (some ((10 : Int), ())) (A V 1 1 ⟨3, v0, v1, v2, q0, q1, q2, q3, q4⟩ [(0 : Int)]) := by
  rw [← za7]; kernel_rfl
theorem zx7 (N : Nat) (A : Int -> Int -> Int -> Stp -> List Int -> Option (Int × Unit)) (V v0 v1 v2 : Int) (q0 q1 q2 q3 q4 : Fr) : zaQ N A V 1 1 ⟨3, v0, v1, v2, q0, q1, q2, q3, q4⟩ [(0 : Int)] = some ((0 : Int), ()) := by kernel_rfl
theorem zx8 (N M : Nat) (V v0 v1 v2 : Int) (q0 q1 q2 q3 q4 : Fr) : zaW N (M + 4) V 1 0 ⟨3, v0, v1, v2, q0, q1, q2, q3, q4⟩ [(0 : Int)] = cond (badV 3 V v0) (some ((10 : Int), ())) (some ((0 : Int), ())) := by
  rw [zau, zso, Bool.true_and, zau, zx7]
theorem zx9 (V v0 v1 v2 : Int) (q0 q1 q2 q3 q4 : Fr) : errS V ⟨3, v0, v1, v2, q0, q1, q2, q3, q4⟩ = cond (bg q0 || bg q1 || bg q2 || bg q3 || bg q4) 4 (cond (badV 3 V v0) 10 0) := by
  show cond (bg q0 || bg q1 || bg q2 || bg q3 || bg q4) 4 (cond (badN V ⟨3, v0, v1, v2, q0, q1, q2, q3, q4⟩) 10 0) = _
  rw [show badN V ⟨3, v0, v1, v2, q0, q1, q2, q3, q4⟩ = ((true && badV 3 V v0) || (false && badV 3 V v1) || (false && badV 3 V v2)) from rfl]
  simp only [Bool.true_and, Bool.false_and, Bool.or_false, Bool.false_or]
theorem zya (M : Nat) (V v0 v1 v2 : Int) (q0 q1 q2 q3 q4 : Fr) : q192 (M + 20) ⟨3, v0, v1, v2, q0, q1, q2, q3, q4⟩ V = some (errS V ⟨3, v0, v1, v2, q0, q1, q2, q3, q4⟩, ()) := by
  rw [zx9]
  refine (show q192 (M + 20) ⟨3, v0, v1, v2, q0, q1, q2, q3, q4⟩ V = zcD (M + 20) (M + 14 + 6) V [q0, q1, q2, q3, q4] 0 ⟨3, v0, v1, v2, q0, q1, q2, q3, q4⟩ [(0 : Int)] by kernel_rfl).trans ?_
  rw [l192 (M + 20) (M + 14) (by omega), show zaW (M + 20) (M + 20) V ((([(0 : Int)]).length : Nat) : Int) 0 ⟨3, v0, v1, v2, q0, q1, q2, q3, q4⟩ [(0 : Int)] = _ from zx8 (M + 20) (M + 16) V v0 v1 v2 q0 q1 q2 q3 q4]
  cases (bg q0 || bg q1 || bg q2 || bg q3 || bg q4) <;> cases badV 3 V v0 <;> rfl
theorem zsp (N : Nat) (A : Int -> Int -> Int -> Stp -> List Int -> Option (Int × Unit)) (V v0 v1 v2 : Int) (q0 q1 q2 q3 q4 : Fr) : zaQ N A V 2 0 ⟨4, v0, v1, v2, q0, q1, q2, q3, q4⟩ [(0 : Int), (2 : Int)] = cond (true && badV 4 V v0) (some ((10 : Int), ())) (A V 2 1 ⟨4, v0, v1, v2, q0, q1, q2, q3, q4⟩ [(0 : Int), (2 : Int)]) := by
  rw [← za7]; kernel_rfl
theorem zsq (N : Nat) (A : Int -> Int -> Int -> Stp -> List Int -> Option (Int × Unit)) (V v0 v1 v2 : Int) (q0 q1 q2 q3 q4 : Fr) : zaQ N A V 2 1 ⟨4, v0, v1, v2, q0, q1, q2, q3, q4⟩ [(0 : Int), (2 : Int)] = cond (true && badV 4 V v2) (some ((10 : Int), ())) (A V 2 2 ⟨4, v0, v1, v2, q0, q1, q2, q3, q4⟩ [(0 : Int), (2 : Int)]) := by
  rw [← za7]; kernel_rfl
theorem zyb (N : Nat) (A : Int -> Int -> Int -> Stp -> List Int -> Option (Int × Unit)) (V v0 v1 v2 : Int) (q0 q1 q2 q3 q4 : Fr) : zaQ N A V 2 2 ⟨4, v0, v1, v2, q0, q1, q2, q3, q4⟩ [(0 : Int), (2 : Int)] = some ((0 : Int), ()) := by kernel_rfl
theorem zyc (N M : Nat) (V v0 v1 v2 : Int) (q0 q1 q2 q3 q4 : Fr) : zaW N (M + 4) V 2 0 ⟨4, v0, v1, v2, q0, q1, q2, q3, q4⟩ [(0 : Int), (2 : Int)] = cond (badV 4 V v0) (some ((10 : Int), ())) (cond (badV 4 V v2) (some ((10 : Int), ())) (some ((0 : Int), ()))) := by
  rw [zau, zsp, Bool.true_and, zau, zsq, Bool.true_and, zau, zyb]
theorem zyd (V v0 v1 v2 : Int) (q0 q1 q2 q3 q4 : Fr) : errS V ⟨4, v0, v1, v2, q0, q1, q2, q3, q4⟩ = cond (bg q0 || bg q1 || bg q2 || bg q3 || bg q4) 4 (cond (badV 4 V v0 || badV 4 V v2) 10 0) := by
  show cond (bg q0 || bg q1 || bg q2 || bg q3 || bg q4) 4 (cond (badN V ⟨4, v0, v1, v2, q0, q1, q2, q3, q4⟩) 10 0) = _
  rw [show badN V ⟨4, v0, v1, v2, q0, q1, q2, q3, q4⟩ = ((true && badV 4 V v0) || (false && badV 4 V v1) || (true && badV 4 V v2)) from rfl]
  simp only [Bool.true_and, Bool.false_and, Bool.or_false, Bool.false_or]
theorem zye (M : Nat) (V v0 v1 v2 : Int) (q0 q1 q2 q3 q4 : Fr) : q192 (M + 20) ⟨4, v0, v1, v2, q0, q1, q2, q3, q4⟩ V = some (errS V ⟨4, v0, v1, v2, q0, q1, q2, q3, q4⟩, ()) := by
  rw [zyd]
  refine (show q192 (M + 20) ⟨4, v0, v1, v2, q0, q1, q2, q3, q4⟩ V = zcD (M + 20) (M + 14 + 6) V [q0, q1, q2, q3, q4] 0 ⟨4, v0, v1, v2, q0, q1, q2, q3, q4⟩ [(0 : Int), (2 : Int)] by kernel_rfl).trans ?_
  rw [l192 (M + 20) (M + 14) (by omega), show zaW (M + 20) (M + 20) V ((([(0 : Int), (2 : Int)]).length : Nat) : Int) 0 ⟨4, v0, v1, v2, q0, q1, q2, q3, q4⟩ [(0 : Int), (2 : Int)] = _ from zyc (M + 20) (M + 16) V v0 v1 v2 q0 q1 q2 q3 q4]
  cases (bg q0 || bg q1 || bg q2 || bg q3 || bg q4) <;> cases badV 4 V v0 <;> cases badV 4 V v2 <;> rfl
theorem zsr (N : Nat) (A : Int -> Int -> Int -> Stp -> List Int -> Option (Int × Unit)) (V v0 v1 v2 : Int) (q0 q1 q2 q3 q4 : Fr) : zaQ N A V 3 0 ⟨5, v0, v1, v2, q0, q1, q2, q3, q4⟩ [(0 : Int), (1 : Int), (2 : Int)] = cond (true && badV 5 V v0) (some ((10 : Int), ())) (A V 3 1 ⟨5, v0, v1, v2, q0, q1, q2, q3, q4⟩ [(0 : Int), (1 : Int), (2 : Int)]) := by
  rw [← za7]; kernel_rfl
theorem zss (N : Nat) (A : Int -> Int -> Int -> Stp -> List Int -> Option (Int × Unit)) (V v0 v1 v2 : Int) (q0 q1 q2 q3 q4 : Fr) : zaQ N A V 3 1 ⟨5, v0, v1, v2, q0, q1, q2, q3, q4⟩ [(0 : Int), (1 : Int), (2 : Int)] = cond (true && badV 5 V v1) (some ((10 : Int), ())) (A V 3 2 ⟨5, v0, v1, v2, q0, q1, q2, q3, q4⟩ [(0 : Int), (1 : Int), (2 : Int)]) := by
  rw [← za7]; kernel_rfl
theorem zst (N : Nat) (A : Int -> Int -> Int -> Stp -> List Int -> Option (Int × Unit)) (V v0 v1 v2 : Int) (q0 q1 q2 q3 q4 : Fr) : zaQ N A V 3 2 ⟨5, v0, v1, v2, q0, q1, q2, q3, q4⟩ [(0 : Int), (1 : Int), (2 : Int)] = cond (true && badV 5 V v2) (some ((10 : Int), ())) (A V 3 3 ⟨5, v0, v1, v2, q0, q1, q2, q3, q4⟩ [(0 : Int), (1 : Int), (2 : Int)]) := by
  rw [← za7]; kernel_rfl
theorem zyf (N : Nat) (A : Int -> Int -> Int -> Stp -> List Int -> Option (Int × Unit)) (V v0 v1 v2 : Int) (q0 q1 q2 q3 q4 : Fr) : zaQ N A V 3 3 ⟨5, v0, v1, v2, q0, q1, q2, q3, q4⟩ [(0 : Int), (1 : Int), (2 : Int)] = some ((0 : Int), ()) := by kernel_rfl
theorem zyg (N M : Nat) (V v0 v1 v2 : Int) (q0 q1 q2 q3 q4 : Fr) : zaW N (M + 4) V 3 0 ⟨5, v0, v1, v2, q0, q1, q2, q3, q4⟩ [(0 : Int), (1 : Int), (2 : Int)] = cond (badV 5 V v0) (some ((10 : Int), ())) (cond (badV 5 V v1) (some ((10 : Int), ())) (cond (badV 5 V v2) (some ((10 : Int), ())) (some ((0 : Int), ())))) := by
  rw [zau, zsr, Bool.true_and, zau, zss, Bool.true_and, zau, zst, Bool.true_and, zau, zyf]
theorem zyh (V v0 v1 v2 : Int) (q0 q1 q2 q3 q4 : Fr) : errS V ⟨5, v0, v1, v2, q0, q1, q2, q3, q4⟩ = cond (bg q0 || bg q1 || bg q2 || bg q3 || bg q4) 4 (cond (badV 5 V v0 || badV 5 V v1 || badV 5 V v2) 10 0) := by
  show cond (bg q0 || bg q1 || bg q2 || bg q3 || bg q4) 4 (cond (badN V ⟨5, v0, v1, v2, q0, q1, q2, q3, q4⟩) 10 0) = _
  rw [show badN V ⟨5, v0, v1, v2, q0, q1, q2, q3, q4⟩ = ((true && badV 5 V v0) || (true && badV 5 V v1) || (true && badV 5 V v2)) from rfl]
  simp only [Bool.true_and, Bool.false_and, Bool.or_false, Bool.false_or]
theorem zyi (M : Nat) (V v0 v1 v2 : Int) (q0 q1 q2 q3 q4 : Fr) : q192 (M + 20) ⟨5, v0, v1, v2, q0, q1, q2, q3, q4⟩ V = some (errS V ⟨5, v0, v1, v2, q0, q1, q2, q3, q4⟩, ()) := by
  rw [zyh]
  refine (show q192 (M + 20) ⟨5, v0, v1, v2, q0, q1, q2, q3, q4⟩ V = zcD (M + 20) (M + 14 + 6) V [q0, q1, q2, q3, q4] 0 ⟨5, v0, v1, v2, q0, q1, q2, q3, q4⟩ [(0 : Int), (1 : Int), (2 : Int)] by kernel_rfl).trans ?_
  rw [l192 (M + 20) (M + 14) (by omega), show zaW (M + 20) (M + 20) V ((([(0 : Int), (1 : Int), (2 : Int)]).length : Nat) : Int) 0 ⟨5, v0, v1, v2, q0, q1, q2, q3, q4⟩ [(0 : Int), (1 : Int), (2 : Int)] = _ from zyg (M + 20) (M + 16) V v0 v1 v2 q0 q1 q2 q3 q4]
  cases (bg q0 || bg q1 || bg q2 || bg q3 || bg q4) <;> cases badV 5 V v0 <;> cases badV 5 V v1 <;> cases badV 5 V v2 <;> rfl
theorem zsu (N : Nat) (A : Int -> Int -> Int -> Stp -> List Int -> Option (Int × Unit)) (V v0 v1 v2 : Int) (q0 q1 q2 q3 q4 : Fr) : zaQ N A V 2 0 ⟨6, v0, v1, v2, q0, q1, q2, q3, q4⟩ [(0 : Int), (1 : Int)] = cond (true && badV 6 V v0) (some ((10 : Int), ())) (A V 2 1 ⟨6, v0, v1, v2, q0, q1, q2, q3, q4⟩ [(0 : Int), (1 : Int)]) := by
  rw [← za7]; kernel_rfl
theorem zsv (N : Nat) (A : Int -> Int -> Int -> Stp -> List Int -> Option (Int × Unit)) (V v0 v1 v2 : Int) (q0 q1 q2 q3 q4 : Fr) : zaQ N A V 2 1 ⟨6, v0, v1, v2, q0, q1, q2, q3, q4⟩ [(0 : Int), (1 : Int)] = cond (true && badV 6 V v1) (some ((10 : Int), ())) (A V 2 2 ⟨6, v0, v1, v2, q0, q1, q2, q3, q4⟩ [(0 : Int), (1 : Int)]) := by
  rw [← za7]; kernel_rfl
theorem zyj (N : Nat) (A : Int -> Int -> Int -> Stp -> List Int -> Option (Int × Unit)) (V v0 v1 v2 : Int) (q0 q1 q2 q3 q4 : Fr) : zaQ N A V 2 2 ⟨6, v0, v1, v2, q0, q1, q2, q3, q4⟩ [(0 : Int), (1 : Int)] = some ((0 : Int), ()) := by kernel_rfl
theorem zyk (N M : Nat) (V v0 v1 v2 : Int) (q0 q1 q2 q3 q4 : Fr) : zaW N (M + 4) V 2 0 ⟨6, v0, v1, v2, q0, q1, q2, q3, q4⟩ [(0 : Int), (1 : Int)] = cond (badV 6 V v0) (some ((10 : Int), ())) (cond (badV 6 V v1) (some ((10 : Int), ())) (some ((0 : Int), ()))) := by
  rw [zau, zsu, Bool.true_and, zau, zsv, Bool.true_and, zau, zyj]
theorem zyl (V v0 v1 v2 : Int) (q0 q1 q2 q3 q4 : Fr) : errS V ⟨6, v0, v1, v2, q0, q1, q2, q3, q4⟩ = cond (bg q0 || bg q1 || bg q2 || bg q3 || bg q4) 4 (cond (badV 6 V v0 || badV 6 V v1) 10 0) := by
  show cond (bg q0 || bg q1 || bg q2 || bg q3 || bg q4) 4 (cond (badN V ⟨6, v0, v1, v2, q0, q1, q2, q3, q4⟩) 10 0) = _
  rw [show badN V ⟨6, v0, v1, v2, q0, q1, q2, q3, q4⟩ = ((true && badV 6 V v0) || (true && badV 6 V v1) || (false && badV 6 V v2)) from rfl]
  simp only [Bool.true_and, Bool.false_and, Bool.or_false, Bool.false_or]
theorem zym (M : Nat) (V v0 v1 v2 : Int) (q0 q1 q2 q3 q4 : Fr) : q192 (M + 20) ⟨6, v0, v1, v2, q0, q1, q2, q3, q4⟩ V = some (errS V ⟨6, v0, v1, v2, q0, q1, q2, q3, q4⟩, ()) := by
  rw [zyl]
  refine (show q192 (M + 20) ⟨6, v0, v1, v2, q0, q1, q2, q3, q4⟩ V = zcD (M + 20) (M + 14 + 6) V [q0, q1, q2, q3, q4] 0 ⟨6, v0, v1, v2, q0, q1, q2, q3, q4⟩ [(0 : Int), (1 : Int)] by kernel_rfl).trans ?_
  rw [l192 (M + 20) (M + 14) (by omega), show zaW (M + 20) (M + 20) V ((([(0 : Int), (1 : Int)]).length : Nat) : Int) 0 ⟨6, v0, v1, v2, q0, q1, q2, q3, q4⟩ [(0 : Int), (1 : Int)] = _ from zyk (M + 20) (M + 16) V v0 v1 v2 q0 q1 q2 q3 q4]
  cases (bg q0 || bg q1 || bg q2 || bg q3 || bg q4) <;> cases badV 6 V v0 <;> cases badV 6 V v1 <;> rfl
theorem zsw (N : Nat) (A : Int -> Int -> Int -> Stp -> List Int -> Option (Int × Unit)) (V v0 v1 v2 : Int) (q0 q1 q2 q3 q4 : Fr) : zaQ N A V 1 0 ⟨7, v0, v1, v2, q0, q1, q2, q3, q4⟩ [(0 : Int)] = cond (true && badV 7 V v0) (some ((10 : Int), ())) (A V 1 1 ⟨7, v0, v1, v2, q0, q1, q2, q3, q4⟩ [(0 : Int)]) := by
  rw [← za7]; kernel_rfl
theorem zyn (N : Nat) (A : Int -> Int -> Int -> Stp -> List Int -> Option (Int × Unit)) (V v0 v1 v2 : Int) (q0 q1 q2 q3 q4 : Fr) : zaQ N A V 1 1 ⟨7, v0, v1, v2, q0, q1, q2, q3, q4⟩ [(0 : Int)] = some ((0 : Int), ()) := by kernel_rfl
theorem zyo (N M : Nat) (V v0 v1 v2 : Int) (q0 q1 q2 q3 q4 : Fr) : zaW N (M + 4) V 1 0 ⟨7, v0, v1, v2, q0, q1, q2, q3, q4⟩ [(0 : Int)] = cond (badV 7 V v0) (some ((10 : Int), ())) (some ((0 : Int), ())) := by
  rw [zau, zsw, Bool.true_and, zau, zyn]
theorem zyp (V v0 v1 v2 : Int) (q0 q1 q2 q3 q4 : Fr) : errS V ⟨7, v0, v1, v2, q0, q1, q2, q3, q4⟩ = cond (bg q0 || bg q1 || bg q2 || bg q3 || bg q4) 4 (cond (badV 7 V v0) 10 0) := by
  show cond (bg q0 || bg q1 || bg q2 || bg q3 || bg q4) 4 (cond (badN V ⟨7, v0, v1, v2, q0, q1, q2, q3, q4⟩) 10 0) = _
  rw [show badN V ⟨7, v0, v1, v2, q0, q1, q2, q3, q4⟩ = ((true && badV 7 V v0) || (false && badV 7 V v1) || (false && badV 7 V v2)) from rfl]
  simp only [Bool.true_and, Bool.false_and, Bool.or_false, Bool.false_or]
theorem zyq (M : Nat) (V v0 v1 v2 : Int) (q0 q1 q2 q3 q4 : Fr) : q192 (M + 20) ⟨7, v0, v1, v2, q0, q1, q2, q3, q4⟩ V = some (errS V ⟨7, v0, v1, v2, q0, q1, q2, q3, q4⟩, ()) := by
  rw [zyp]
  refine (show q192 (M + 20) ⟨7, v0, v1, v2, q0, q1, q2, q3, q4⟩ V = zcD (M + 20) (M + 14 + 6) V [q0, q1, q2, q3, q4] 0 ⟨7, v0, v1, v2, q0, q1, q2, q3, q4⟩ [(0 : Int)] by kernel_rfl).trans ?_
  rw [l192 (M + 20) (M + 14) (by omega), show zaW (M + 20) (M + 20) V ((([(0 : Int)]).length : Nat) : Int) 0 ⟨7, v0, v1, v2, q0, q1, q2, q3, q4⟩ [(0 : Int)] = _ from zyo (M + 20) (M + 16) V v0 v1 v2 q0 q1 q2 q3 q4]
  cases (bg q0 || bg q1 || bg q2 || bg q3 || bg q4) <;> cases badV 7 V v0 <;> rfl
theorem zsx (N : Nat) {k : Int} (h : k < 1 \/ 7 < k) : q217 N k = some ([], false, ()) := by
  unfold q217
  rw [za6 (show ¬ k = 1 by omega), za6 (show ¬ k = 2 by omega), za6 (show ¬ k = 3 by omega), za6 (show ¬ k = 4 by omega), za6 (show ¬ k = 5 by omega), za6 (show ¬ k = 6 by omega), za6 (show ¬ k = 7 by omega)]
  rfl
theorem zu5 {N : Nat} (hN : 100 <= N) (V : Int) (s : Stp) : q192 N s V = some (errS V s, ()) := by
  obtain ⟨M, rfl⟩ : ∃ M, N = M + 20 := ⟨N - 20, by omega⟩
  by_cases hk : s.kind < 1 \/ 7 < s.kind
  . unfold q192 errS
    rw [zsx _ hk]
    simp only [bsm]
    rcases hk with hk | hk
    . rw [zav hk]; rfl
    . rw [zav hk, Bool.or_true]; rfl
  . obtain ⟨k, v0, v1, v2, q0, q1, q2, q3, q4⟩ := s
    simp only at hk
    have hk : k = 1 \/ k = 2 \/ k = 3 \/ k = 4 \/ k = 5 \/ k = 6 \/ k = 7 := by omega
    rcases hk with rfl | rfl | rfl | rfl | rfl | rfl | rfl
    . exact zx2 ..
    . exact zx6 ..
    . exact zya ..
    . exact zye ..
    . exact zyi ..
    . exact zym ..
    . exact zyq ..
theorem zyr (M : Nat) (v0 v1 v2 : Int) (q0 q1 q2 q3 q4 : Fr) : q108 (M + 8) ⟨1, v0, v1, v2, q0, q1, q2, q3, q4⟩ = some (zaF ⟨1, v0, v1, v2, q0, q1, q2, q3, q4⟩, 0, ()) := by kernel_rfl
theorem zys (M : Nat) (v0 v1 v2 : Int) (q0 q1 q2 q3 q4 : Fr) : q108 (M + 8) ⟨2, v0, v1, v2, q0, q1, q2, q3, q4⟩ = some (zaF ⟨2, v0, v1, v2, q0, q1, q2, q3, q4⟩, 0, ()) := by kernel_rfl
theorem zyt (M : Nat) (v0 v1 v2 : Int) (q0 q1 q2 q3 q4 : Fr) : q108 (M + 8) ⟨3, v0, v1, v2, q0, q1, q2, q3, q4⟩ = some (zaF ⟨3, v0, v1, v2, q0, q1, q2, q3, q4⟩, 0, ()) := by kernel_rfl
theorem zyu (M : Nat) (v0 v1 v2 : Int) (q0 q1 q2 q3 q4 : Fr) : q108 (M + 8) ⟨4, v0, v1, v2, q0, q1, q2, q3, q4⟩ = some (zaF ⟨4, v0, v1, v2, q0, q1, q2, q3, q4⟩, 0, ()) := by kernel_rfl
theorem zyv (M : Nat) (v0 v1 v2 : Int) (q0 q1 q2 q3 q4 : Fr) : q108 (M + 8) ⟨5, v0, v1, v2, q0, q1, q2, q3, q4⟩ = some (zaF ⟨5, v0, v1, v2, q0, q1, q2, q3, q4⟩, 0, ()) := by kernel_rfl
theorem zyw (M : Nat) (v0 v1 v2 : Int) (q0 q1 q2 q3 q4 : Fr) : q108 (M + 8) ⟨6, v0, v1, v2, q0, q1, q2, q3, q4⟩ = some (zaF ⟨6, v0, v1, v2, q0, q1, q2, q3, q4⟩, 0, ()) := by kernel_rfl
theorem zyx (M : Nat) (v0 v1 v2 : Int) (q0 q1 q2 q3 q4 : Fr) : q108 (M + 8) ⟨7, v0, v1, v2, q0, q1, q2, q3, q4⟩ = some (zaF ⟨7, v0, v1, v2, q0, q1, q2, q3, q4⟩, 0, ()) := by kernel_rfl
theorem zu6 {N : Nat} (hN : 100 <= N) {s : Stp} (h : 1 <= s.kind /\ s.kind <= 7) : q108 N s = some (zaF s, 0, ()) := by
  obtain ⟨M, rfl⟩ : ∃ M, N = M + 8 := ⟨N - 8, by omega⟩
  obtain ⟨k, v0, v1, v2, q0, q1, q2, q3, q4⟩ := s
  simp only at h
  have hk : k = 1 \/ k = 2 \/ k = 3 \/ k = 4 \/ k = 5 \/ k = 6 \/ k = 7 := by omega
  rcases hk with rfl | rfl | rfl | rfl | rfl | rfl | rfl
  . exact zyr ..
  . exact zys ..
  . exact zyt ..
  . exact zyu ..
  . exact zyv ..
  . exact zyw ..
  . exact zyx ..
theorem zqo {n : Nat} {m : Int} (h : (n : Int) <= m) : eqI (n : Int) m = leI m (n : Int) := by
  by_cases e : (n : Int) = m
  . rw [za4 e, zc2 (by omega)]
  . rw [za6 e, zaC (by omega)]
theorem zsy {N : Nat} (hN : 100 <= N) {b : Bd} (h : BdI b) (s : Stp) : q114 N (b.V : Int) b.pb b.rw b.sm s = some ((b.doS s).1.out, (b.doS s).2.1, (b.doS s).2.2, ()) := by
  have i1 := h.v; have i2 := h.p; have i3 := h.r; have i4 := h.m
  have i5 := zqn s
  unfold q114 Bd.doS
  rw [zu5 hN, cond_false]
  simp only [bsm]
  cases h0 : eqI (errS b.V s) 0 with
  | false => rfl
  | true =>
    have hok := zqm (of_decide_eq_true h0)
    rw [Bool.not_true, cond_false, zu6 hN hok.1]
    simp only [bsm]
    have e1 : wr ((b.pb.length : Int) + (b.rw.length : Int)) = ((b.pb.length + b.rw.length : Nat) : Int) := by rw [zc5 (by omega) (by omega)]; omega
    have e2 : wr (((b.pb.length + b.rw.length : Nat) : Int) + ((zaF s).length : Int)) = ((b.pb.length + b.rw.length + (zaF s).length : Nat) : Int) := by rw [zc5 (by omega) (by omega)]; omega
    have e3 : wr (((b.V + 1 : Nat) : Int) - 1) = (b.V : Int) := by rw [zc5 (by omega) (by omega)]; omega
    rw [za4 rfl, Bool.not_true, cond_false, e1, e2, zaT (by omega), e3, cond_true, zqo (n := b.V) (m := 200) (by omega), zqo (n := b.sm.length) (m := 200) (by omega), zqo (n := b.pb.length) (m := 8) (by omega)]
    simp only [List.length_cons, List.length_nil]
    rw [zaD (by omega), zaD (by omega), zaD (by omega)]
    simp only [mst2]
    cases ltI 64 ((b.pb.length + b.rw.length + (zaF s).length : Nat) : Int) <;> cases eqI s.kind 1 <;> cases leI 200 (b.V : Int) <;> cases eqI s.kind 6 <;> cases leI 200 (b.sm.length : Int) <;> cases eqI s.kind 7 <;> cases leI 8 (b.pb.length : Int) <;> rfl
theorem zyy (N : Nat) (A : Int -> Int -> Int -> List Row -> List Row -> Option (List Row × Unit)) (z : Int) (a b : List Row) : zbO N A z 2 0 a b = cond (ltI (wr (z + (a.length : Int))) 0) none (A (wr (z + (a.length : Int))) 2 1 a b) := by kernel_rfl
theorem zyz (N : Nat) (A : Int -> Int -> Int -> List Row -> List Row -> Option (List Row × Unit)) (z : Int) (a b : List Row) : zbO N A z 2 1 a b = cond (ltI (wr (z + (b.length : Int))) 0) none (A (wr (z + (b.length : Int))) 2 2 a b) := by kernel_rfl
theorem zyA (N : Nat) (A : Int -> Int -> Int -> List Row -> List Row -> Option (List Row × Unit)) (z : Int) (a b : List Row) : zbO N A z 2 2 a b = Option.bind (zfq N z) fun rr => zbN N N 2 0 a b rr.1 := by kernel_rfl
theorem zyB (N : Nat) (A : Int -> Int -> List Row -> List Row -> List Row -> Option (List Row × Unit)) (a b l : List Row) : zbp N A 2 0 a b l = must (leN ((l.length + a.length) * 280) 140737488355328) (A 2 1 a b (l ++ a)) := by kernel_rfl
theorem zyC (N : Nat) (A : Int -> Int -> List Row -> List Row -> List Row -> Option (List Row × Unit)) (a b l : List Row) : zbp N A 2 1 a b l = must (leN ((l.length + b.length) * 280) 140737488355328) (A 2 2 a b (l ++ b)) := by kernel_rfl
theorem zyD (N : Nat) (A : Int -> Int -> List Row -> List Row -> List Row -> Option (List Row × Unit)) (a b l : List Row) : zbp N A 2 2 a b l = some (l, ()) := by kernel_rfl
theorem zu7 {N : Nat} (hN : 100 <= N) {a b : List Row} (ha : a.length <= 1000) (hb : b.length <= 1000) : zfs N a b = some (a ++ b, ()) := by
  obtain ⟨M, rfl⟩ : ∃ M, N = M + 3 := ⟨N - 3, by omega⟩
  have e1 : wr (0 + (a.length : Int)) = (a.length : Int) := by rw [zc5 (by omega) (by omega)]; omega
  have e2 : wr ((a.length : Int) + (b.length : Int)) = ((a.length + b.length : Nat) : Int) := by rw [zc5 (by omega) (by omega)]; omega
  show zcb (M + 3) (M + 3) 0 2 0 a b = _
  rw [zcj, zyy, e1, zai (by omega), cond_false, zcj, zyz, e2, zai (by omega), cond_false, zcj, zyA]
  unfold zfq
  rw [zc2 (by omega), Int.toNat_natCast, zaD (by omega), Bool.true_and, mst2, bsm, zb0, zyB]
  simp only [List.length_nil, List.nil_append]
  rw [zaD (by omega), mst2, zb0, zyC, zaD (by omega), mst2, zb0, zyD]
theorem zu8 {N : Nat} (hN : 100 <= N) {b : Bd} (h : BdI b) : q117 N (b.V : Int) b.pb b.rw b.sm = some (b.out, ((b.pb.length : Int), (b.V : Int), b.pb ++ b.rw, b.sm, ()), ()) := by
  have i2 := h.p; have i3 := h.r; have i4 := h.m
  unfold q117
  rw [cond_false, zu7 hN (by omega) (by omega), bsm]
  unfold q199
  rw [zaD (by omega), mst2, bsm]
  rfl
theorem ztb {N : Nat} {V P : Int} (rows : List Row) (sm : List Pr) (hb : sm.length < 1000000) : ∀ (l : List Pr) (i n : Nat), sm.drop i = l -> i + l.length = sm.length -> l.length < n -> zhm N n (i : Int) P V rows sm P V rows sm = some (true, ())
  | [], i, n + 1, hd, hl, hn => by
    rw [zgo]
    unfold zhl
    rw [zai (by simp at hl; omega), cond_false]
  | x :: l, i, n + 1, hd, hl, hn => by
    simp only [List.length_cons] at hl hn
    rw [zgo]
    unfold zhl
    have hi : i < sm.length := by omega
    rw [zav (by omega), cond_true, zaR, Bool.true_and, mst2, mst2, Int.toNat_natCast, (zxJ hd hi).1]
    have he : eqL El.int [x.x, x.y] [x.x, x.y] = true := by
      unfold eqL eqL eqL eqE
      simp [eqI]
    rw [he, Bool.not_true, cond_false, zaT (by omega)]
    exact ztb rows sm hb l (i + 1) n (zxJ hd hi).2 (by omega) (by omega)
theorem ztc {N : Nat} {V P : Int} (rows : List Row) (sm : List Pr) (hb : sm.length < 1000) (hr : rows.length < 1000) (hN : 2000 <= N) : ∀ (l : List Row) (i n : Nat), rows.drop i = l -> i + l.length = rows.length -> l.length < n -> zho N n (i : Int) P V rows sm P V rows sm = some (true, ())
  | [], i, n + 1, hd, hl, hn => by
    rw [zgp]
    unfold zhn
    rw [zai (by simp at hl; omega), cond_false]
    exact ztb rows sm (by omega) sm 0 N rfl (by omega) (by omega)
  | x :: l, i, n + 1, hd, hl, hn => by
    simp only [List.length_cons] at hl hn
    rw [zgp]
    unfold zhn
    have hi : i < rows.length := by omega
    rw [zav (by omega), cond_true, zaR, Bool.true_and, mst2, mst2, Int.toNat_natCast, (zs8 hd hi).1, zhq, Bool.not_true, cond_false, zaT (by omega)]
    exact ztc rows sm hb hr hN l (i + 1) n (zs8 hd hi).2 (by omega) (by omega)
theorem zqp {N : Nat} (hN : 2000 <= N) (P V : Int) (rows : List Row) (sm : List Pr) (hr : rows.length < 1000) (hb : sm.length < 1000) : q116 N P V rows sm P V rows sm = some (true, ()) := by
  unfold q116
  rw [za4 rfl, za4 rfl, za4 rfl, za4 rfl, Bool.not_true, cond_false, cond_false, cond_false, cond_false]
  exact ztc rows sm hb hr hN rows 0 N rfl (by omega) (by omega)
end
section
def Bd.all (b : Bd) : List Stp -> Prop
  | [] => True
  | s :: l => (b.doS s).2.2 = 0 /\ Bd.all (b.doS s).1 l
def Bd.fin (b : Bd) : List Stp -> Bd
  | [] => b
  | s :: l => Bd.fin (b.doS s).1 l
theorem Bd.all_append : ∀ {l m : List Stp} {b : Bd}, b.all l -> (b.fin l).all m -> b.all (l ++ m)
  | [], _, _, _, h => h
  | _ :: _, _, _, h, h2 => ⟨h.1, Bd.all_append h.2 h2⟩
theorem Bd.fin_append : ∀ {l m : List Stp} {b : Bd}, b.fin (l ++ m) = (b.fin l).fin m
  | [], _, _ => rfl
  | _ :: l, _, _ => Bd.fin_append (l := l)
theorem BdI.fin {b : Bd} (h : BdI b) : ∀ l : List Stp, BdI (b.fin l)
  | [] => h
  | s :: l => BdI.fin (h.doS s) l
def PlS.bd (s : PlS) : Bd := ⟨s.vs.length, s.pb, s.rw, s.sm⟩
def Rep (s : PlS) : Prop := Bd.zero.all s.st /\ Bd.zero.fin s.st = s.bd
theorem zeS {l : List Stp} {b b' : Bd} {t : Stp} {x : Int} (h : Bd.zero.all l /\ Bd.zero.fin l = b) (ht : b.doS t = (b', x, 0)) : Bd.zero.all (l ++ [t]) /\ Bd.zero.fin (l ++ [t]) = b' := by
  refine ⟨Bd.all_append h.1 ?_, ?_⟩
  . rw [h.2]; exact ⟨by rw [ht], trivial⟩
  . rw [Bd.fin_append, h.2]; show (b.doS t).1 = b'; rw [ht]
theorem zk7 {b : Bd} (h1 : b.pb.length + b.rw.length <= 64) (h4 : b.V < 200) : b.doS svar = (⟨b.V + 1, b.pb, b.rw, b.sm⟩, (b.V : Int), 0) := by
  rw [Bd.doS_ok (zqd _) (fun h => absurd h (by decide)) (by rw [show (zaF svar).length = 0 from rfl]; omega) (fun h => absurd h (by decide)) (fun _ => h4)]
  show ((⟨b.V + 1, b.pb, b.rw ++ [], b.sm⟩ : Bd), (b.V : Int), (0 : Int)) = _
  rw [List.append_nil]
structure Sz (s : PlS) : Prop where
  v : s.vs.length <= 100
  p : s.pb.length <= 3
  r : s.rw.length <= 50
  m : s.sm.length <= 100
theorem Sz.two {s : PlS} {n : Nat} {c : Fr} {t : Stp} (h : Sz (s.two n c t)) : s.vs.length + 1 <= 100 /\ s.pb.length <= 3 /\ s.rw.length + (zaF t).length <= 50 /\ s.sm.length <= 100 := by
  obtain ⟨h1, h2, h3, h4⟩ := h
  refine ⟨by simpa [PlS.two] using h1, h2, by simpa [PlS.two] using h3, ?_⟩
  unfold PlS.two at h4
  cases h6 : eqI t.kind 6 with
  | false => rw [h6] at h4; exact h4
  | true => rw [h6] at h4; simp at h4; omega
theorem Gate.sz {s s' : PlS} (h : Gate s s') (hz : Sz s') : Sz s := by
  cases h with
  | mul n x y k hx hy hk => obtain ⟨h1, h2, h3, h4⟩ := hz.two; exact ⟨by omega, h2, by omega, h4⟩
  | bool n k hk => obtain ⟨h1, h2, h3, h4⟩ := hz.two; exact ⟨by omega, h2, by omega, h4⟩
  | pow n x hx => obtain ⟨h1, h2, h3, h4⟩ := hz.two; exact ⟨by omega, h2, by omega, h4⟩
  | next n x y hx hy => obtain ⟨h1, h2, h3, h4⟩ := hz.two; exact ⟨by omega, h2, by omega, h4⟩
  | same n x hx => obtain ⟨h1, h2, h3, h4⟩ := hz.two; exact ⟨by omega, h2, by omega, h4⟩
  | pub n x hx hp =>
    obtain ⟨h1, h2, h3, h4⟩ := hz
    simp only [List.length_append, List.length_cons, List.length_nil] at h2
    exact ⟨h1, by omega, h3, h4⟩
  | skip n => exact ⟨hz.v, hz.p, hz.r, hz.m⟩
  | no n x hx =>
    obtain ⟨h1, h2, h3, h4⟩ := hz
    simp only [List.length_append] at h3
    exact ⟨h1, h2, by omega, h4⟩
theorem Plays.sz {s s' : PlS} (h : Plays s s') : Sz s' -> Sz s := by
  induction h with
  | refl s => exact id
  | step h1 _ ih => exact fun hz => h1.sz (ih hz)
theorem Rep.two {s : PlS} {n : Nat} {c : Fr} {t : Stp} (hz : Sz (s.two n c t)) (h : Rep s) (ht : okS ((s.vs.length + 1 : Nat) : Int) t) (k1 : t.kind ≠ 1) (k7 : t.kind ≠ 7) : Rep (s.two n c t) := by
  obtain ⟨z1, z2, z3, z4⟩ := hz.two
  have e1 := zeS h (zk7 (b := s.bd) (by show s.pb.length + s.rw.length <= 64; omega) (by show s.vs.length < 200; omega))
  have e2 := Bd.doS_ok (b := ⟨s.bd.V + 1, s.bd.pb, s.bd.rw, s.bd.sm⟩) (s := t) ht (fun e => absurd e k7) (by show s.pb.length + s.rw.length + (zaF t).length <= 64; omega) (fun _ => by show s.sm.length < 200; omega) (fun e => absurd e k1)
  rw [za6 k1, za6 k7] at e2
  have e3 := zeS e1 e2
  unfold Rep
  have e4 : (s.two n c t).bd = ⟨s.bd.V + 1, s.bd.pb, s.bd.rw ++ zaF t, cond (eqI t.kind 6) (s.bd.sm ++ [⟨t.v0, t.v1⟩]) s.bd.sm⟩ := by
    unfold PlS.two PlS.bd
    simp
  rw [e4]
  exact e3
theorem Gate.rep {s s' : PlS} (h : Gate s s') (hz : Sz s') (hr : Rep s) : Rep s' := by
  cases h with
  | mul n x y k hx hy hk => exact hr.two hz (zqi (by omega) (by omega) (by omega) (zc3 (by omega))) (by show ¬ (2 : Int) = 1; decide) (by show ¬ (2 : Int) = 7; decide)
  | bool n k hk => exact hr.two hz (zk3 (by omega)) (by show ¬ (3 : Int) = 1; decide) (by show ¬ (3 : Int) = 7; decide)
  | pow n x hx => exact hr.two hz (zqj (by omega) (by omega)) (by show ¬ (4 : Int) = 1; decide) (by show ¬ (4 : Int) = 7; decide)
  | next n x y hx hy => exact hr.two hz (zk4 (by omega) (by omega) (by omega)) (by show ¬ (5 : Int) = 1; decide) (by show ¬ (5 : Int) = 7; decide)
  | same n x hx => exact hr.two hz (zk5 (by omega) (by omega)) (by show ¬ (6 : Int) = 1; decide) (by show ¬ (6 : Int) = 7; decide)
  | pub n x hx hp3 =>
    obtain ⟨z1, z2, z3, z4⟩ := hz
    simp only [List.length_append, List.length_cons, List.length_nil] at z2
    exact zeS hr (Bd.doS_ok (b := s.bd) (s := tPub x) (zqk (by show (x : Int) < (s.vs.length : Int); omega)) (fun _ => by show s.pb.length < 8; omega) (by show s.pb.length + s.rw.length + 1 <= 64; simp only at z3; omega) (fun e => absurd e (by show ¬ (7 : Int) = 6; decide)) (fun e => absurd e (by show ¬ (7 : Int) = 1; decide)))
  | skip n => exact hr
  | no n x hx =>
    obtain ⟨z1, z2, z3, z4⟩ := hz
    simp only [List.length_append] at z2 z3
    exact zeS hr (Bd.doS_ok (b := s.bd) (s := tNo x) (zu2 (by show (x : Int) < (s.vs.length : Int); omega)) (fun e => absurd e (by show ¬ (2 : Int) = 7; decide)) (by show s.pb.length + s.rw.length + (zaF (tNo x)).length <= 64; omega) (fun e => absurd e (by show ¬ (2 : Int) = 6; decide)) (fun e => absurd e (by show ¬ (2 : Int) = 1; decide)))
theorem zqq (n a b : Nat) : Rep (zjk n a b) :=
  zeS (l := [svar]) (zeS (l := []) (b := Bd.zero) ⟨trivial, rfl⟩ (zk7 (b := Bd.zero) (Nat.zero_le _) (by decide))) (zk7 (b := ⟨1, [], [], []⟩) (Nat.zero_le _) (by decide))
theorem Plays.rep {s s' : PlS} (h : Plays s s') : Sz s' -> Rep s -> Rep s' := by
  induction h with
  | refl s => exact fun _ hr => hr
  | step h1 h2 ih => exact fun hz hr => ih hz (h1.rep (h2.sz hz) hr)
theorem PlI.sz {g : Nat} {s : PlS} (h : PlI g s) (hg : g <= 14) : Sz s := by
  have h1 := h.v; have h2 := h.p; have h3 := h.pp; have h4 := h.r; have h5 := h.m
  exact ⟨by omega, by omega, by omega, by omega⟩
end
section
def zyE (b : Bd) : (Int × Int × List Row × List Pr × Unit) := ((b.pb.length : Int), (b.V : Int), b.pb ++ b.rw, b.sm, ())
theorem zjm {N : Nat} (hN : 100 <= N) {b : Bd} (h : BdI b) {R : Type} (f : ((Int × List Row × List Row × List Pr × Unit) × (Int × Int × List Row × List Pr × Unit) × Unit) -> Option R) : Option.bind (q117 N (b.V : Int) b.pb b.rw b.sm) f = f (b.out, zyE b, ()) := by
  rw [zu8 hN h, bsm]; rfl
theorem zqr {N : Nat} (hN : 100 <= N) {b : Bd} (h : BdI b) (s : Stp) {R : Type} (f : ((Int × List Row × List Row × List Pr × Unit) × Int × Int × Unit) -> Option R) : Option.bind (q114 N (b.V : Int) b.pb b.rw b.sm s) f = f ((b.doS s).1.out, (b.doS s).2.1, (b.doS s).2.2, ()) := by
  rw [zsy hN h, bsm]
theorem zqs {N : Nat} (hN : 2000 <= N) {b : Bd} (h : BdI b) {R : Type} (f : Bool × Unit -> Option R) : Option.bind (q116 N (b.pb.length : Int) (b.V : Int) (b.pb ++ b.rw) b.sm (b.pb.length : Int) (b.V : Int) (b.pb ++ b.rw) b.sm) f = f (true, ()) := by
  have h1 := h.r; have h2 := h.m
  rw [zqp hN _ _ _ _ (by simp; omega) (by omega), bsm]
end
section
def at31 {R : Type} (A : UInt8 -> Int -> Stp -> Int -> Int -> Int -> Int -> (List Row) -> (List Pr) -> (List Fr) -> (List Fr) -> (List Stp) -> (List Row) -> (List Row) -> (List Pr) -> (List Row) -> (List Row) -> (List Pr) -> R) (at2 : UInt8) (i : Int) (bad : Stp) (s : PlS) (a b : Bd) : R :=
  A at2 i bad (s.pb.length : Int) (s.vs.length : Int) (a.V : Int) (b.V : Int) (s.pb ++ s.rw) s.sm s.pv s.vs s.st a.pb a.rw a.sm b.pb b.rw b.sm
abbrev Lp31 := UInt8 -> Int -> Stp -> Int -> Int -> Int -> Int -> (List Row) -> (List Pr) -> (List Fr) -> (List Fr) -> (List Stp) -> (List Row) -> (List Row) -> (List Pr) -> (List Row) -> (List Row) -> (List Pr) -> Option (Bool × Unit)
def zl2 (N : Nat) (A : Lp31) (at2 : UInt8) (i : Nat) (bad : Stp) (s : PlS) (a b : Bd) : Option (Bool × Unit) :=
  Option.bind (q114 N (a.V : Int) a.pb a.rw a.sm (s.st.getD i ⟨0, 0, 0, 0, .zero, .zero, .zero, .zero, .zero⟩)) fun rr5 => Option.bind (q114 N (b.V : Int) b.pb b.rw b.sm (s.st.getD i ⟨0, 0, 0, 0, .zero, .zero, .zero, .zero, .zero⟩)) fun rr6 =>
    cond (!eqI rr5.2.2.1 0) (some (false, ())) (cond (!eqI rr6.2.2.1 0) (some (false, ())) (A at2 (wr ((i : Int) + 1)) bad (s.pb.length : Int) (s.vs.length : Int) rr5.1.1 rr6.1.1 (s.pb ++ s.rw) s.sm s.pv s.vs s.st rr5.1.2.1 rr5.1.2.2.1 rr5.1.2.2.2.1 rr6.1.2.1 rr6.1.2.2.1 rr6.1.2.2.2.1))
theorem zqt {N : Nat} (hN : 100 <= N) (A : Lp31) (at2 : UInt8) (i : Nat) (hi : i < 1000000) (bad : Stp) (s : PlS) {c : Bd} (h : BdI c) (hok : (c.doS (s.st.getD i ⟨0, 0, 0, 0, .zero, .zero, .zero, .zero, .zero⟩)).2.2 = 0) :
    zl2 N A at2 i bad s c c = at31 A at2 ((i + 1 : Nat) : Int) bad s (c.doS (s.st.getD i ⟨0, 0, 0, 0, .zero, .zero, .zero, .zero, .zero⟩)).1 (c.doS (s.st.getD i ⟨0, 0, 0, 0, .zero, .zero, .zero, .zero, .zero⟩)).1 := by
  unfold zl2
  rw [zqr hN h, zqr hN h]
  simp only
  rw [hok, za4 rfl, Bool.not_true, cond_false, cond_false, zaT (by omega)]
  rfl
theorem zu9 (N : Nat) (A : Lp31) (at2 : UInt8) (i : Nat) (bad : Stp) (s : PlS) (a b : Bd) (hi : i < s.st.length) :
    at31 (zkZ N A) at2 (i : Int) bad s a b = cond (eqI (i : Int) (Int.tmod (at2.toNat : Int) (s.st.length : Int)))
      (Option.bind (q117 N (a.V : Int) a.pb a.rw a.sm) fun rr7 => Option.bind (q114 N rr7.1.1 rr7.1.2.1 rr7.1.2.2.1 rr7.1.2.2.2.1 bad) fun rr8 => cond (eqI rr8.2.2.1 0) (some (true, ())) (Option.bind (q117 N rr8.1.1 rr8.1.2.1 rr8.1.2.2.1 rr8.1.2.2.2.1) fun rr9 =>
        Option.bind (q116 N rr9.2.1.1 rr9.2.1.2.1 rr9.2.1.2.2.1 rr9.2.1.2.2.2.1 rr7.2.1.1 rr7.2.1.2.1 rr7.2.1.2.2.1 rr7.2.1.2.2.2.1) fun rr10 => cond (!rr10.1) (some (false, ()))
          (Option.bind (q114 N rr9.1.1 rr9.1.2.1 rr9.1.2.2.1 rr9.1.2.2.2.1 (s.st.getD i ⟨0, 0, 0, 0, .zero, .zero, .zero, .zero, .zero⟩)) fun rr5 => Option.bind (q114 N (b.V : Int) b.pb b.rw b.sm (s.st.getD i ⟨0, 0, 0, 0, .zero, .zero, .zero, .zero, .zero⟩)) fun rr6 =>
    cond (!eqI rr5.2.2.1 0) (some (false, ())) (cond (!eqI rr6.2.2.1 0) (some (false, ())) (A at2 (wr ((i : Int) + 1)) bad (s.pb.length : Int) (s.vs.length : Int) rr5.1.1 rr6.1.1 (s.pb ++ s.rw) s.sm s.pv s.vs s.st rr5.1.2.1 rr5.1.2.2.1 rr5.1.2.2.2.1 rr6.1.2.1 rr6.1.2.2.1 rr6.1.2.2.2.1)))))
      (zl2 N A at2 i bad s a b) := by
  unfold at31 zkZ zl2
  rw [zav (show (i : Int) < (s.st.length : Int) by omega), cond_true, za6 (show ¬ (s.st.length : Int) = 0 by omega), Bool.not_false, mst2, zaR]
  simp only [Bool.and_self, mst2, Int.toNat_natCast]
theorem zyF (N : Nat) (A : Lp31) (at2 : UInt8) (bad : Stp) (s : PlS) (a b : Bd) :
    at31 (zkZ N A) at2 (s.st.length : Int) bad s a b = Option.bind (q117 N (a.V : Int) a.pb a.rw a.sm) fun rr0 => Option.bind (q117 N (b.V : Int) b.pb b.rw b.sm) fun rr1 => Option.bind (q116 N rr0.2.1.1 rr0.2.1.2.1 rr0.2.1.2.2.1 rr0.2.1.2.2.2.1 rr1.2.1.1 rr1.2.1.2.1 rr1.2.1.2.2.1 rr1.2.1.2.2.2.1) fun rr2 =>
      cond rr2.1 (Option.bind (q117 N rr0.1.1 rr0.1.2.1 rr0.1.2.2.1 rr0.1.2.2.2.1) fun rr3 => Option.bind (q116 N rr3.2.1.1 rr3.2.1.2.1 rr3.2.1.2.2.1 rr3.2.1.2.2.2.1 (s.pb.length : Int) (s.vs.length : Int) (s.pb ++ s.rw) s.sm) fun rr4 => some (rr4.1, ())) (some (false, ())) := by
  unfold at31 zkZ
  rw [zai (by omega), cond_false]
theorem ztd {N : Nat} (hN : 2000 <= N) (at2 : UInt8) (bad : Stp) (s : PlS) (hst : s.st.length < 1000) : ∀ (k i n : Nat) (c : Bd), i + k = s.st.length -> k < n -> BdI c -> c.all (s.st.drop i) -> c.fin (s.st.drop i) = s.bd ->
    at31 (zk0 N n) at2 (i : Int) bad s c c = some (true, ())
  | 0, i, n + 1, c, hi, hk, h, _, hf => by
    obtain rfl : i = s.st.length := by omega
    rw [List.drop_length] at hf
    have hc : c = s.bd := hf
    refine (zyF N (zk0 N n) at2 bad s c c).trans ?_
    rw [zjm (by omega) h, zjm (by omega) h]
    refine (zqs hN h _).trans ?_
    simp only [cond_true]
    refine (zjm (b := c) (by omega) h _).trans ?_
    rw [hc] at h ⊢
    exact (zqs hN h _).trans rfl
  | k + 1, i, n + 1, c, hi, hk, h, ha, hf => by
    have hlt : i < s.st.length := by omega
    have ht : s.st.drop i = s.st.getD i ⟨0, 0, 0, 0, .zero, .zero, .zero, .zero, .zero⟩ :: s.st.drop (i + 1) := by
      rw [List.getD_eq_getElem?_getD, List.getElem?_eq_getElem hlt, Option.getD_some]
      exact List.drop_eq_getElem_cons hlt
    rw [ht] at ha hf
    obtain ⟨ha1, ha2⟩ := ha
    have ih := ztd hN at2 bad s hst k (i + 1) n (c.doS (s.st.getD i ⟨0, 0, 0, 0, .zero, .zero, .zero, .zero, .zero⟩)).1 (by omega) (by omega) (h.doS _) ha2 hf
    have hb := (zqt (N := N) (by omega) (zk0 N n) at2 i (by omega) bad s h ha1).trans ih
    refine (zu9 N (zk0 N n) at2 i bad s c c hlt).trans ?_
    cases he : eqI (i : Int) (Int.tmod (at2.toNat : Int) (s.st.length : Int)) with
    | false => exact hb
    | true =>
      rw [cond_true, zjm (by omega) h]
      refine (zqr (b := c) (by omega) h bad _).trans ?_
      cases h0 : eqI (c.doS bad).2.2 0 with
      | true => simp only [h0, cond_true]
      | false =>
        simp only [h0, cond_false]
        have hr := Bd.refused c bad (of_decide_eq_false h0)
        rw [hr]
        refine (zjm (b := c) (by omega) h _).trans ?_
        refine (zqs (b := c) hN h _).trans ?_
        rw [Bool.not_true, cond_false]
        exact hb
theorem zva (l : List UInt8) (bad : Stp) (at2 : UInt8) : q31 2000 l bad at2 = some (true, ()) := by
  unfold q31
  rw [zxS, bsm]
  show cond false (some (false, ())) _ = some (true, ())
  rw [cond_false]
  by_cases h : 80 < l.length
  . rw [zav (by omega), cond_true]
  . rw [zai (by omega), cond_false]
    obtain ⟨n, a, b, s, g, ha, hb, hg, hp, hi, hgd, hgood, e⟩ := zsk (N := 2000) (most := 14) (Nat.le_refl _) (Nat.le_refl _) l
    have hz := hi.sz hg
    have hrep := hp.rep hz (zqq n a b)
    have e : q95 2000 l 14 = _ := e
    have hst := hi.st
    rw [e, bsm]
    exact ztd (N := 2000) (Nat.le_refl _) at2 bad s (by omega) s.st.length 0 2000 Bd.zero (by omega) (by omega) Bd.zero_inv hrep.1 hrep.2
end
section
open Go.ChangeShapes Go.WideShapes Go.ChangeAt Go.RowKit
def zqu (P : Program) (k : K) (t : TypeId) : Prop :=
  ∀ (H : Type) (enc : TypeId × Value -> H) (W : World) (base : Nat) (v : Value) (d : DataW H) (p : List MemPlace), Value.okWide P W .any base t v -> DataW.Trod enc P W 0 (fun _ => true) true t v d p ->
    ∃ x : k.T, zgQ W (fun b => b < W.heap.size) (k.enc x) v
theorem zgt {P : Program} {H : Type} {enc : TypeId × Value -> H} {W : World} {base : Nat} {sp : Nat -> Bool} {hd : Bool} : ∀ {ts : List TypeId} {vs : List Value} {ds : List (DataW H)} {p : List MemPlace}, DataW.TrodAll enc P W base sp hd ts vs ds p -> ds.length = ts.length
  | [], [], [], _, _ => rfl
  | _ :: _, _ :: _, _ :: _, _, ⟨_, _, _, h, _⟩ => by simp [zgt h]
  | [], _ :: _, _, _, h => by cases h
  | [], [], _ :: _, _, h => by cases h
  | _ :: _, [], _, _, h => by cases h
  | _ :: _, _ :: _, [], _, h => by cases h
theorem zyG {k : IntKind} {n : Int} {P : Program} {W : World} {t : TypeId} {v : Value} {base : Nat} {H : Type} {enc : TypeId × Value -> H} {d : DataW H} {p : List MemPlace} (ht : P.underlying t = some (.int k)) (hv : Value.okWide P W .any base t v) (h : DataW.Trod enc P W 0 (fun _ => true) true t v d p) :
    ∃ n, v = .int k n /\ (Lit.int k n).wf = true := by
  obtain ⟨n, h1, _, _, h4⟩ := open_int ht hv h
  exact ⟨n, h1, h4⟩
theorem zsz {P : Program} {t : TypeId} (ht : P.underlying t = some (.int .u8)) : zqu P K.u8 t := fun H enc W base v d p hv h => by
  obtain ⟨n, rfl, hw⟩ := zyG (n := 0) ht hv h
  have := bounds_u8 hw
  refine ⟨UInt8.ofNat n.toNat, .sc ?_⟩
  simp only [C.val, Option.some.injEq, Value.int.injEq, true_and]
  rw [UInt8.toNat_ofNat']
  omega
structure NumEl where
  e : El
  k : IntKind
  of : Int -> e.T
  one : e.size = 1
  val : ∀ n, (Lit.int k n).wf = true -> ∃ c, e.toC (of n) = [c] /\ c.val = some (.int k n)
def zAe : NumEl := ⟨.u8, .u8, fun n => UInt8.ofNat n.toNat, rfl, fun n hw => ⟨_, rfl, by
  have := bounds_u8 hw
  simp only [C.val, Option.some.injEq, Value.int.injEq, true_and]
  rw [UInt8.toNat_ofNat']
  omega⟩⟩
theorem zjn (m : NumEl) (zs : List Int) (hw : ∀ n ∈ zs, (Lit.int m.k n).wf = true) (j : Nat) (c : C) (h : (flat m.e (zs.map m.of))[j]? = some c) : j < zs.length /\ c.val = some (.int m.k (zs.getD j 0)) := by
  induction zs generalizing j with
  | nil => simp [flat] at h
  | cons z zs ih =>
    obtain ⟨c0, h1, h2⟩ := m.val z (hw z (by simp))
    simp only [List.map_cons, flat, h1] at h
    cases j with
    | zero =>
      simp at h
      subst h
      exact ⟨by simp, by simpa using h2⟩
    | succ j =>
      simp at h
      obtain ⟨h3, h4⟩ := ih (fun n hn => hw n (by simp [hn])) j h
      exact ⟨by simpa using h3, by simpa using h4⟩
theorem zk8 {P : Program} {t e : TypeId} (m : NumEl) (ht : P.underlying t = some (.slice e)) (he : P.underlying e = some (.int m.k)) (hc : P.cellsOf e = 1) : zqu P (K.ro m.e) t := fun H enc W base v d p hv h => by
  obtain ⟨ad, n, c, rfl⟩ := okWide_slice ht hv
  obtain ⟨fuel, hf⟩ := h
  rcases open_ints ht he hc hf with ⟨hcs, _⟩ | ⟨a, len, cap, zs, hcs, _, h1, h2, h3, _, h5, h6⟩
  . simp [Value.cells] at hcs
    obtain ⟨rfl, rfl, rfl⟩ := hcs
    exact ⟨[], .emp⟩
  . simp [Value.cells] at hcs
    obtain ⟨rfl, rfl, rfl⟩ := hcs
    simp only [if_true] at h3
    cases hn : n with
    | zero => exact ⟨[], .emp⟩
    | succ n' =>
      have hlen : ((zs.take n).map m.of).length = n := by simp; omega
      have h0 := h5 0 (by omega)
      have hspot : a.spot = none /\ a.block < W.heap.size := by
        have e0 : a.add 0 = a := by simp [Addr.add]
        rw [e0] at h0
        unfold World.cell? at h0
        split at h0
        . rename_i cs _ _ hb
          refine ⟨?_, (Array.getElem?_eq_some_iff.1 hb).1⟩
          cases hs : a.spot with
          | none => rfl
          | some q => rw [hs] at h0; simp at h0
        . cases h0
      obtain ⟨b, off, spot⟩ := a
      obtain ⟨hs, hb⟩ := hspot
      simp only at hs hb
      subst hs
      have hw : ∀ z ∈ zs.take n, (Lit.int m.k z).wf = true := fun z hz => h6 z (List.mem_of_mem_take hz)
      refine ⟨(zs.take n).map m.of, ?_⟩
      have := Holds.ro (w := W) (ok := fun b => b < W.heap.size) (e := m.e) (l := (zs.take n).map m.of) (b := b) (off := off) (cap := c) (fun j => .int m.k (zs.getD j 0)) (by rw [hlen]; exact h1) h2 hb (fun j c' hj => ?_) (fun j c' hj => ?_)
      . rw [hlen] at this
        rw [← hn]
        exact this
      . obtain ⟨q1, q2⟩ := zjn m _ hw j c' hj
        have := h5 j (by rw [List.length_take] at q1; omega)
        rw [zaL] at this
        exact this
      . obtain ⟨q1, q2⟩ := zjn m _ hw j c' hj
        rw [List.length_take] at q1
        refine .sc ?_
        rw [q2]
        congr 2
        simp only [List.getD_eq_getElem?_getD, List.getElem?_take]
        rw [if_pos (by omega)]
theorem zsA {P : Program} (hlaid : laidOutB P = true) {H : Type} {enc : TypeId × Value -> H} {fn : Func} {s : ChangeSpec} {apart fresh : Bool} {W W' : World} {args : Array Value} {ds gs : List (DataW H)} {before : List MemPlace} {tb : TypeId}
    (hread : ∀ t ∈ fn.params.toList, P.readableRec t = true /\ t < P.types.size) (hvars : s.vars = []) (hres : fn.resultTypes = #[tb]) (htb : P.underlying tb = some .bool)
    (hspec : s.fn H (ds ++ []) = { results := [.lit (.bool true)], args := ds })
    (hW : DataW.Whole enc P fn.params.toList s.vars apart W args.toList ds gs before) (hk : Kept W W') : s.post enc P fn apart fresh false false W args (.bool true) W' := by
  have hW' := hW
  obtain ⟨p, q, hA, hV, rfl, hz, hn⟩ := hW'
  rw [hvars] at hV
  obtain ⟨rfl, rfl⟩ := trodVars_none hV
  have hlt : ∀ x ∈ p, x.block < W.heap.size := fun x hx => hW.lt x (by simp [hx])
  have hbelow : Below W.heap.size W W' := ⟨hk.os, hk.tape, hk.output, hk.size, hk.block⟩
  have hargs : ∀ {ts : List TypeId} {vs : List Value} {ds : List (DataW H)} {p : List MemPlace}, (∀ t ∈ ts, P.readableRec t = true /\ t < P.types.size) -> DataW.TrodAll enc P W 0 (fun _ => true) true ts vs ds p -> (∀ x ∈ p, x.block < W.heap.size) ->
      DataW.TrodAll enc P W' 0 (fun b => decide (b < W.heap.size)) true ts vs ds p := by
    intro ts
    induction ts with
    | nil => intro vs ds p _ h _; cases vs <;> cases ds <;> first | exact h | exact h.elim
    | cons t ts ih =>
      intro vs ds p hr h hl
      cases vs with
      | nil => cases ds <;> exact h.elim
      | cons v vs => cases ds with
        | nil => exact h.elim
        | cons d ds =>
          obtain ⟨p1, q1, h1, h2, rfl⟩ := h
          exact ⟨p1, q1, Below.trod hlaid (hr t (by simp)).1 (hr t (by simp)).2 h1 hbelow (fun x hx => hl x (by simp [hx])), ih (fun t ht => hr t (by simp [ht])) h2 (fun x hx => hl x (by simp [hx])), rfl⟩
  have hkeep : W.keptBut W' (fun _ => False) := by
    refine ⟨hk.os, hk.output, fun i hi => ?_⟩
    rw [hk.block i hi]
    cases hb : W.heap[i]? with
    | none => trivial
    | some o => cases o <;> simp
  refine ⟨ds, [], p ++ [], [], p, [], hW, ?_, ?_, ?_, World.keptBut_mono (fun _ h => h.elim) hkeep, fun h => by cases h⟩
  . rw [hspec, hres]
    refine ⟨[], [], ⟨1, ?_⟩, rfl, rfl⟩
    simp [DataW.trod, htb, Value.cells, Value.resultList]
  . rw [hspec]
    exact hargs hread hA hlt
  . rw [hspec, hvars]
    rfl
end
section
open Go.ChangeShapes Go.WideShapes Go.ChangeAt Go.RowKit
theorem own : ownKnob Try.prog.godebug = none := by kernel_rfl
theorem laid : laidOutB Try.pinned.checked.prog = true := by kernel_rfl
theorem zAf : mapsRowed Try.pinned.checked.prog = true := by kernel_rfl
theorem zAg : Try.pinned.checked.prog.stopsHeard = true := by kernel_rfl
theorem zm3 : Try.pinned.checked.prog.mayEnter = true := zna
theorem zvb : zqu Try.prog (K.ro .u8) 24 := zk8 zAe Try.underlying24 Try.underlying5 (by kernel_rfl)
theorem zyH : zqu Try.prog K.u8 5 := zsz Try.underlying5
end
end Go.Proofs.Ytgimohchocjgcaa.V
