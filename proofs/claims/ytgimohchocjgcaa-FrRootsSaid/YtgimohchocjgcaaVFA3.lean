/- The statement FrRoots, of plain functions. -/
import Derived.Test.YtgimohchocjgcaaVFA2
set_option linter.unusedVariables false
set_option linter.unusedSimpArgs false
namespace Go.Proofs.Ytgimohchocjgcaa.V

theorem m15_eq {N : Nat} (hN : 10 < N) (log : Nat) (hl : log ≤ 32) : ∀ (k n i : Nat) (x : Fr), i + k = log → k < n → fv x = rootN (log - i) → m15_10 N n (log : Int) (i : Int) x = some (true, ()) := by
  intro k
  induction k with
  | zero =>
    intro n i x hi hn hx
    obtain ⟨n, rfl⟩ : ∃ m, n = m + 1 := ⟨n - 1, by omega⟩
    have h1 : x = ⟨1, 0, 0, 0⟩ := fr_ext (by rw [hx, show log - i = 0 by omega, root_zero, fv_one])
    rw [m15_10_succ]
    unfold c15_10
    rw [ltI_false (by omega), cond_false, q75_is]
    simp only [bsm]
    rw [eqF_true h1]
  | succ k ih =>
    intro n i x hi hn hx
    obtain ⟨n, rfl⟩ : ∃ m, n = m + 1 := ⟨n - 1, by omega⟩
    have h1 : x ≠ ⟨1, 0, 0, 0⟩ := fun h => by
      rw [h, fv_one] at hx
      exact root_ne (by omega) (by omega) hx.symm
    have hxl : fv x < RR := by rw [hx]; exact rootN_lt _
    rw [m15_10_succ]
    unfold c15_10
    rw [ltI_true (by omega), cond_true, q75_is]
    simp only [bsm]
    rw [eqF_false h1, cond_false, q76_eq' hN hxl]
    simp only [bsm]
    rw [wr_add1 (by omega)]
    refine ih n (i + 1) _ (by omega) (by omega) ?_
    rw [fv_mod, hx, show log - i = (log - (i + 1)) + 1 by omega, root_sq (by omega)]

theorem fr_roots_plain (log : Int) : q15 2000 log = some (true, ()) := by
  unfold q15
  rw [frbegun]
  simp only [bsm]
  rw [Bool.not_true, cond_false]
  by_cases h : log < 0 ∨ 32 < log
  · rw [q77_bad h, q78_bad h]
    simp only [bsm]
    rw [eqI_true rfl, Bool.not_true, cond_false, eqF_self, Bool.not_true, cond_false, eqI_false (by decide), Bool.not_false, cond_true]
  · obtain ⟨n, rfl⟩ : ∃ n : Nat, log = (n : Int) := ⟨log.toNat, by omega⟩
    rw [q77_eq (by omega) (by omega), q78_eq (by omega) (by omega)]
    simp only [bsm]
    rw [eqI_true rfl, Bool.not_true, cond_false, eqF_self, Bool.not_true, cond_false, cond_false]
    exact m15_eq (by omega) n (by omega) n 2000 0 _ (by omega) (by omega) (by rw [Nat.sub_zero]; exact fv_frN' (rootN_lt _))

end Go.Proofs.Ytgimohchocjgcaa.V
