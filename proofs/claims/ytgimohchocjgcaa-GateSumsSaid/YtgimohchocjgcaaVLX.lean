/- The statements on wide numbers, of plain functions. -/
import Derived.Test.YtgimohchocjgcaaVUM
import Derived.Test.YtgimohchocjgcaaVLN
import Derived.KernelRfl
set_option linter.unusedVariables false
set_option linter.unusedSimpArgs false
namespace Go.Proofs.Ytgimohchocjgcaa.V

theorem begun1 : q51 2000 = some (true, ()) := by kernel_rfl

theorem sum_len {a b s : List UInt64} {k : Nat} (ha : a.length ≤ k) (hb : b.length ≤ k) (hs : Nrm s) (h : lv s = lv a + lv b) : s.length ≤ k + 1 := by
  refine Nrm_len hs ?_
  have h1 := lv_len ha
  have h2 := lv_len hb
  rw [Nat.pow_succ]
  generalize 18446744073709551616 ^ k = p at h1 h2 ⊢
  omega

theorem line_plain (a b c : List UInt64) : q12 2000 a b c = some (true, ()) := by
  unfold q12
  rw [begun1]
  simp only [Option.bind_some, Bool.not_true, cond_false]
  by_cases ha : a.length ≤ 8
  case neg => rw [ltI_true (by omega), cond_true]
  by_cases hb : b.length ≤ 8
  case neg => rw [ltI_false (by omega), cond_false, ltI_true (by omega), cond_true]
  by_cases hc : c.length ≤ 8
  case neg => rw [ltI_false (by omega), cond_false, ltI_false (by omega), cond_false, ltI_true (by omega), cond_true]
  rw [ltI_false (by omega), cond_false, ltI_false (by omega), cond_false, ltI_false (by omega), cond_false]
  obtain ⟨s, hs1, hs2, hs3⟩ := q62_eq (N := 2000) (a := a) (b := c) (by omega) (by omega) (by omega)
  obtain ⟨t, ht1, ht2, ht3⟩ := q62_eq (N := 2000) (a := b) (b := c) (by omega) (by omega) (by omega)
  have hsl := sum_len ha hc hs2 hs3
  have htl := sum_len hb hc ht2 ht3
  rw [q61_eq (a := a) (b := b) (by omega) (by omega) (by omega), q61_eq (a := b) (b := a) (by omega) (by omega) (by omega), q61_eq (a := b) (b := c) (by omega) (by omega) (by omega), q61_eq (a := a) (b := c) (by omega) (by omega) (by omega),
    q61_eq (a := a) (b := a) (by omega) (by omega) (by omega), hs1, ht1]
  simp only [Option.bind_some]
  rw [q61_eq (a := s) (b := t) (by omega) (by omega) (by omega), hs3, ht3]
  simp only [Option.bind_some]
  rw [show cmpN (lv a) (lv a) = 0 by simp [cmpN]]
  have hn : ∀ x y : Int, x = wr (0 - y) ↔ eqI x (wr (0 - y)) = true := fun x y => by simp [eqI]
  rcases q63_eq (N := 2000) (a := a) (b := b) (by omega) (by omega) (by omega) with ⟨h1, h2⟩ | ⟨h1, u, h2, h3, h4⟩
  · rw [h2]
    simp only [Option.bind_some]
    have e1 : cmpN (lv a) (lv b) = -1 := if_pos h1
    have e2 : cmpN (lv b) (lv a) = 1 := by unfold cmpN; rw [if_neg (by omega), if_pos h1]
    have e3 : cmpN (lv a + lv c) (lv b + lv c) = -1 := if_pos (by omega)
    rw [e1, e2, e3]
    by_cases h5 : lv b < lv c
    · have e4 : cmpN (lv b) (lv c) = -1 := if_pos h5
      have e5 : cmpN (lv a) (lv c) = -1 := if_pos (by omega)
      rw [e4, e5]
      rfl
    · have e4 : eqI (cmpN (lv b) (lv c)) (-1) = false := by unfold cmpN; rw [if_neg h5]; split <;> rfl
      rw [e4]
      rfl
  · rw [h2]
    simp only [Option.bind_some]
    by_cases h5 : lv b < lv a
    · have e1 : cmpN (lv a) (lv b) = 1 := by unfold cmpN; rw [if_neg (by omega), if_pos h5]
      have e2 : cmpN (lv b) (lv a) = -1 := if_pos h5
      have e3 : cmpN (lv a + lv c) (lv b + lv c) = 1 := by unfold cmpN; rw [if_neg (by omega), if_pos (by omega)]
      rw [e1, e2, e3]
      rfl
    · have e1 : cmpN (lv a) (lv b) = 0 := by unfold cmpN; rw [if_neg (by omega), if_neg h5]
      have e2 : cmpN (lv b) (lv a) = 0 := by unfold cmpN; rw [if_neg h5, if_neg (by omega)]
      have e3 : cmpN (lv a + lv c) (lv b + lv c) = 0 := by unfold cmpN; rw [if_neg (by omega), if_neg (by omega)]
      rw [e1, e2, e3]
      rfl

end Go.Proofs.Ytgimohchocjgcaa.V
