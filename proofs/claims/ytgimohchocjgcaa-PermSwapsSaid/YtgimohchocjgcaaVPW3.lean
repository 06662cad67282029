import Derived.Test.YtgimohchocjgcaaVPW2
import Derived.Test.YtgimohchocjgcaaVPA1
import Derived.Test.YtgimohchocjgcaaVPA8
import Derived.KernelRfl
import Derived.Test.YtgimohchocjgcaaVOS
set_option linter.unusedVariables false
set_option linter.unusedSimpArgs false
namespace Go.Proofs.Ytgimohchocjgcaa.V
def sw (x y i : Nat) : Nat := if i = x then y else if i = y then x else i
theorem hle9 (l : List Fr) (hl : l.length < 100) (a : Fr) : leN ((List.length l + List.length [a]) * 32) 140737488355328 = true := leN_true (by simp; omega)
theorem h98 (j : Nat) (hj : j < 12) : q98 2000 (2 : Int) (j : Int) = some (nm 2 j, 0, ()) := q98_eq (N := 2000) (L := 2) (by omega) (by omega) (by omega)
theorem eqI_ne {a b : Nat} (h : a ≠ b) : eqI (a : Int) (b : Int) = false := by simp only [eqI, decide_eq_false_iff_not]; omega
theorem sw_step_0 {n i x y : Nat} (hi : i < 12) (hx : x < 12) (hy : y < 12) (hq : i / 4 = 0) (w : List Fr) (b g : Fr) (c0 c1 c2 o0 o1 o2 s0 s1 s2 : List Fr) (hl : c0.length < 100 ∧ o0.length < 100 ∧ s0.length < 100) :
    m21_9 2000 (n + 1) (x : Int) (y : Int) (i : Int) w b g c0 c1 c2 o0 o1 o2 s0 s1 s2 = m21_9 2000 n (x : Int) (y : Int) ((i + 1 : Nat) : Int) w b g (c0 ++ [w.getD i Fr.zero]) c1 c2 (o0 ++ [nm 2 i]) o1 o2 (s0 ++ [nm 2 (sw x y i)]) s1 s2 := by
  have q1 : wr (Int.tdiv (i : Int) 4) = ((0 : Nat) : Int) := by rw [Int.tdiv_eq_ediv_of_nonneg (by omega), wr_id (by omega) (by omega)]; omega
  have hc := hle9 c0 hl.1
  have ho := hle9 o0 hl.2.1
  have hs := hle9 s0 hl.2.2
  have e0 : eqI ((0 : Nat) : Int) ((0 : Nat) : Int) = true := rfl
  rw [m21_9_succ]
  unfold c21_9
  rw [ltI_true (show (i : Int) < 12 by omega), cond_true, q1, leI_zero, ltI_true (show (i : Int) < ((12 : Nat) : Int) by omega), wr_add1 (by omega), Int.toNat_natCast, show (true && true) = true from rfl]
  by_cases hxi : i = x
  · rw [show sw x y i = y from by simp [sw, hxi], show eqI (i : Int) (x : Int) = true from eqI_true (by omega), cond_true, h98 i hi]
    simp only [bsm]
    rw [h98 y hy]
    simp only [bsm]
    simp only [e0, hc, ho, hs, mst2, cond_true, cond_false]
  · rw [show eqI (i : Int) (x : Int) = false from eqI_ne hxi, cond_false]
    by_cases hyi : i = y
    · rw [show sw x y i = x from by simp [sw, hxi, hyi], show eqI (i : Int) (y : Int) = true from eqI_true (by omega), cond_true, h98 i hi]
      simp only [bsm]
      rw [h98 x hx]
      simp only [bsm]
      simp only [e0, hc, ho, hs, mst2, cond_true, cond_false]
    · rw [show sw x y i = i from by simp [sw, hxi, hyi], show eqI (i : Int) (y : Int) = false from eqI_ne hyi, cond_false, h98 i hi]
      simp only [bsm]
      simp only [e0, hc, ho, hs, mst2, cond_true, cond_false]
theorem sw_step_1 {n i x y : Nat} (hi : i < 12) (hx : x < 12) (hy : y < 12) (hq : i / 4 = 1) (w : List Fr) (b g : Fr) (c0 c1 c2 o0 o1 o2 s0 s1 s2 : List Fr) (hl : c1.length < 100 ∧ o1.length < 100 ∧ s1.length < 100) :
    m21_9 2000 (n + 1) (x : Int) (y : Int) (i : Int) w b g c0 c1 c2 o0 o1 o2 s0 s1 s2 = m21_9 2000 n (x : Int) (y : Int) ((i + 1 : Nat) : Int) w b g c0 (c1 ++ [w.getD i Fr.zero]) c2 o0 (o1 ++ [nm 2 i]) o2 s0 (s1 ++ [nm 2 (sw x y i)]) s2 := by
  have q1 : wr (Int.tdiv (i : Int) 4) = ((1 : Nat) : Int) := by rw [Int.tdiv_eq_ediv_of_nonneg (by omega), wr_id (by omega) (by omega)]; omega
  have hc := hle9 c1 hl.1
  have ho := hle9 o1 hl.2.1
  have hs := hle9 s1 hl.2.2
  have e0 : eqI ((1 : Nat) : Int) ((0 : Nat) : Int) = false := rfl
  have e1 : eqI ((1 : Nat) : Int) (((0 : Nat) + (1 : Nat) : Nat) : Int) = true := rfl
  rw [m21_9_succ]
  unfold c21_9
  rw [ltI_true (show (i : Int) < 12 by omega), cond_true, q1, leI_zero, ltI_true (show (i : Int) < ((12 : Nat) : Int) by omega), wr_add1 (by omega), Int.toNat_natCast, show (true && true) = true from rfl]
  by_cases hxi : i = x
  · rw [show sw x y i = y from by simp [sw, hxi], show eqI (i : Int) (x : Int) = true from eqI_true (by omega), cond_true, h98 i hi]
    simp only [bsm]
    rw [h98 y hy]
    simp only [bsm]
    simp only [e0, e1, hc, ho, hs, mst2, cond_true, cond_false]
  · rw [show eqI (i : Int) (x : Int) = false from eqI_ne hxi, cond_false]
    by_cases hyi : i = y
    · rw [show sw x y i = x from by simp [sw, hxi, hyi], show eqI (i : Int) (y : Int) = true from eqI_true (by omega), cond_true, h98 i hi]
      simp only [bsm]
      rw [h98 x hx]
      simp only [bsm]
      simp only [e0, e1, hc, ho, hs, mst2, cond_true, cond_false]
    · rw [show sw x y i = i from by simp [sw, hxi, hyi], show eqI (i : Int) (y : Int) = false from eqI_ne hyi, cond_false, h98 i hi]
      simp only [bsm]
      simp only [e0, e1, hc, ho, hs, mst2, cond_true, cond_false]
theorem sw_step_2 {n i x y : Nat} (hi : i < 12) (hx : x < 12) (hy : y < 12) (hq : i / 4 = 2) (w : List Fr) (b g : Fr) (c0 c1 c2 o0 o1 o2 s0 s1 s2 : List Fr) (hl : c2.length < 100 ∧ o2.length < 100 ∧ s2.length < 100) :
    m21_9 2000 (n + 1) (x : Int) (y : Int) (i : Int) w b g c0 c1 c2 o0 o1 o2 s0 s1 s2 = m21_9 2000 n (x : Int) (y : Int) ((i + 1 : Nat) : Int) w b g c0 c1 (c2 ++ [w.getD i Fr.zero]) o0 o1 (o2 ++ [nm 2 i]) s0 s1 (s2 ++ [nm 2 (sw x y i)]) := by
  have q1 : wr (Int.tdiv (i : Int) 4) = ((2 : Nat) : Int) := by rw [Int.tdiv_eq_ediv_of_nonneg (by omega), wr_id (by omega) (by omega)]; omega
  have hc := hle9 c2 hl.1
  have ho := hle9 o2 hl.2.1
  have hs := hle9 s2 hl.2.2
  have e0 : eqI ((2 : Nat) : Int) ((0 : Nat) : Int) = false := rfl
  have e1 : eqI ((2 : Nat) : Int) (((0 : Nat) + (1 : Nat) : Nat) : Int) = false := rfl
  have e2 : eqI ((2 : Nat) : Int) (((0 : Nat) + (1 : Nat) + (1 : Nat) : Nat) : Int) = true := rfl
  rw [m21_9_succ]
  unfold c21_9
  rw [ltI_true (show (i : Int) < 12 by omega), cond_true, q1, leI_zero, ltI_true (show (i : Int) < ((12 : Nat) : Int) by omega), wr_add1 (by omega), Int.toNat_natCast, show (true && true) = true from rfl]
  by_cases hxi : i = x
  · rw [show sw x y i = y from by simp [sw, hxi], show eqI (i : Int) (x : Int) = true from eqI_true (by omega), cond_true, h98 i hi]
    simp only [bsm]
    rw [h98 y hy]
    simp only [bsm]
    simp only [e0, e1, e2, hc, ho, hs, mst2, cond_true, cond_false]
  · rw [show eqI (i : Int) (x : Int) = false from eqI_ne hxi, cond_false]
    by_cases hyi : i = y
    · rw [show sw x y i = x from by simp [sw, hxi, hyi], show eqI (i : Int) (y : Int) = true from eqI_true (by omega), cond_true, h98 i hi]
      simp only [bsm]
      rw [h98 x hx]
      simp only [bsm]
      simp only [e0, e1, e2, hc, ho, hs, mst2, cond_true, cond_false]
    · rw [show sw x y i = i from by simp [sw, hxi, hyi], show eqI (i : Int) (y : Int) = false from eqI_ne hyi, cond_false, h98 i hi]
      simp only [bsm]
      simp only [e0, e1, e2, hc, ho, hs, mst2, cond_true, cond_false]
theorem sw_run {x y : Nat} (hx : x < 12) (hy : y < 12) (w : List Fr) (b g : Fr) :
    m21_9 2000 2000 (x : Int) (y : Int) (0 : Int) w b g [] [] [] [] [] [] [] [] [] = m21_9 2000 1988 (x : Int) (y : Int) ((12 : Nat) : Int) w b g [w.getD 0 Fr.zero, w.getD 1 Fr.zero, w.getD 2 Fr.zero, w.getD 3 Fr.zero] [w.getD 4 Fr.zero, w.getD 5 Fr.zero, w.getD 6 Fr.zero, w.getD 7 Fr.zero] [w.getD 8 Fr.zero, w.getD 9 Fr.zero, w.getD 10 Fr.zero, w.getD 11 Fr.zero] [nm 2 0, nm 2 1, nm 2 2, nm 2 3] [nm 2 4, nm 2 5, nm 2 6, nm 2 7] [nm 2 8, nm 2 9, nm 2 10, nm 2 11] [nm 2 (sw x y 0), nm 2 (sw x y 1), nm 2 (sw x y 2), nm 2 (sw x y 3)] [nm 2 (sw x y 4), nm 2 (sw x y 5), nm 2 (sw x y 6), nm 2 (sw x y 7)] [nm 2 (sw x y 8), nm 2 (sw x y 9), nm 2 (sw x y 10), nm 2 (sw x y 11)] :=
  (sw_step_0 (n := 1999) (i := 0) (by omega) hx hy rfl w b g [] [] [] [] [] [] [] [] [] (by simp)).trans <|
  (sw_step_0 (n := 1998) (i := 1) (by omega) hx hy rfl w b g _ _ _ _ _ _ _ _ _ (by simp)).trans <|
  (sw_step_0 (n := 1997) (i := 2) (by omega) hx hy rfl w b g _ _ _ _ _ _ _ _ _ (by simp)).trans <|
  (sw_step_0 (n := 1996) (i := 3) (by omega) hx hy rfl w b g _ _ _ _ _ _ _ _ _ (by simp)).trans <|
  (sw_step_1 (n := 1995) (i := 4) (by omega) hx hy rfl w b g _ _ _ _ _ _ _ _ _ (by simp)).trans <|
  (sw_step_1 (n := 1994) (i := 5) (by omega) hx hy rfl w b g _ _ _ _ _ _ _ _ _ (by simp)).trans <|
  (sw_step_1 (n := 1993) (i := 6) (by omega) hx hy rfl w b g _ _ _ _ _ _ _ _ _ (by simp)).trans <|
  (sw_step_1 (n := 1992) (i := 7) (by omega) hx hy rfl w b g _ _ _ _ _ _ _ _ _ (by simp)).trans <|
  (sw_step_2 (n := 1991) (i := 8) (by omega) hx hy rfl w b g _ _ _ _ _ _ _ _ _ (by simp)).trans <|
  (sw_step_2 (n := 1990) (i := 9) (by omega) hx hy rfl w b g _ _ _ _ _ _ _ _ _ (by simp)).trans <|
  (sw_step_2 (n := 1989) (i := 10) (by omega) hx hy rfl w b g _ _ _ _ _ _ _ _ _ (by simp)).trans <|
  (sw_step_2 (n := 1988) (i := 11) (by omega) hx hy rfl w b g _ _ _ _ _ _ _ _ _ (by simp))
end Go.Proofs.Ytgimohchocjgcaa.V
