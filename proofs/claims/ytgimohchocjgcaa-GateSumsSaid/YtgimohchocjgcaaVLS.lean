/- The statement LimbRests, of plain functions. -/
import Derived.Test.YtgimohchocjgcaaVLY
import Derived.Test.YtgimohchocjgcaaVLR
set_option linter.unusedVariables false
set_option linter.unusedSimpArgs false
namespace Go.Proofs.Ytgimohchocjgcaa.V

theorem rests_plain (a m : List UInt64) : q6 2000 a m = some (true, ()) := by
  unfold q6
  rw [begun1]
  simp only [Option.bind_some, Bool.not_true, cond_false]
  by_cases ha : a.length ≤ 24
  case neg => rw [ltI_true (by omega), cond_true]
  by_cases hm : m.length ≤ 12
  case neg => rw [ltI_false (by omega), cond_false, ltI_true (by omega), cond_true]
  rw [ltI_false (by omega), cond_false, ltI_false (by omega), cond_false]
  rcases q52_eq (N := 2000) (a := a) (m := m) (by omega) (by omega) (Nat.le_refl _) with ⟨h1, h2⟩ | ⟨h1, r, h2, h3, h4⟩
  · rcases q53_eq (N := 2000) (a := a) (m := m) (by omega) (by omega) (Nat.le_refl _) with ⟨_, g2⟩ | ⟨g1, _⟩
    · rw [h2, g2]
      simp only [Option.bind_some]
      rw [show eqI 7 7 = true from rfl, cond_true, q54_eq (by simp) (by simp)]
      rfl
    · omega
  · rcases q53_eq (N := 2000) (a := a) (m := m) (by omega) (by omega) (Nat.le_refl _) with ⟨g1, _⟩ | ⟨_, q, g2, g3, g4⟩
    · omega
    · have e : r = q := eq_of_lv h3 g3 (by rw [h4, g4])
      have hl : r.length ≤ 12 := Nrm_len h3 (by rw [h4]; exact Nat.lt_trans (Nat.mod_lt _ h1) (lv_len hm))
      rw [h2, g2]
      simp only [Option.bind_some]
      rw [show eqI 0 0 = true from rfl, cond_true, q54_eq (by omega) (by omega), e]
      simp

end Go.Proofs.Ytgimohchocjgcaa.V
