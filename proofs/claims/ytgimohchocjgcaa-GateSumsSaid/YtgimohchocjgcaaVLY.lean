/- The statements LimbRing, LimbRests and their like, of plain functions. -/
import Derived.Test.YtgimohchocjgcaaVLX
import Derived.Test.YtgimohchocjgcaaVLP
set_option linter.unusedVariables false
set_option linter.unusedSimpArgs false
namespace Go.Proofs.Ytgimohchocjgcaa.V

theorem mul_len {a b s : List UInt64} {j k : Nat} (ha : a.length ≤ j) (hb : b.length ≤ k) (hs : Nrm s) (h : lv s = lv a * lv b) : s.length ≤ j + k := by
  refine Nrm_len hs ?_
  rw [h, Nat.pow_add]
  have h1 := lv_len ha
  have h2 := lv_len hb
  exact Nat.mul_lt_mul'' h1 h2

theorem ring_plain (a b c : List UInt64) : q11 2000 a b c = some (true, ()) := by
  unfold q11
  rw [begun1]
  simp only [Option.bind_some, Bool.not_true, cond_false]
  by_cases ha : a.length ≤ 6
  case neg => rw [ltI_true (by omega), cond_true]
  by_cases hb : b.length ≤ 6
  case neg => rw [ltI_false (by omega), cond_false, ltI_true (by omega), cond_true]
  by_cases hc : c.length ≤ 6
  case neg => rw [ltI_false (by omega), cond_false, ltI_false (by omega), cond_false, ltI_true (by omega), cond_true]
  rw [ltI_false (by omega), cond_false, ltI_false (by omega), cond_false, ltI_false (by omega), cond_false]
  obtain ⟨s, hs1, hs2, hs3⟩ := q62_eq (N := 2000) (a := a) (b := b) (by omega) (by omega) (by omega)
  have hsl := sum_len ha hb hs2 hs3
  obtain ⟨sc, hsc1, hsc2, hsc3⟩ := q55_eq (N := 2000) (a := s) (b := c) (by omega) (by omega) (by omega)
  obtain ⟨ac, hac1, hac2, hac3⟩ := q55_eq (N := 2000) (a := a) (b := c) (by omega) (by omega) (by omega)
  obtain ⟨bc, hbc1, hbc2, hbc3⟩ := q55_eq (N := 2000) (a := b) (b := c) (by omega) (by omega) (by omega)
  have hacl := mul_len ha hc hac2 hac3
  have hbcl := mul_len hb hc hbc2 hbc3
  have hscl := mul_len hsl hc hsc2 hsc3
  obtain ⟨t, ht1, ht2, ht3⟩ := q62_eq (N := 2000) (a := ac) (b := bc) (by omega) (by omega) (by omega)
  obtain ⟨ab, hab1, hab2, hab3⟩ := q55_eq (N := 2000) (a := a) (b := b) (by omega) (by omega) (by omega)
  obtain ⟨ba, hba1, hba2, hba3⟩ := q55_eq (N := 2000) (a := b) (b := a) (by omega) (by omega) (by omega)
  have habl := mul_len ha hb hab2 hab3
  obtain ⟨u, hu1, hu2, hu3⟩ := q55_eq (N := 2000) (a := ab) (b := c) (by omega) (by omega) (by omega)
  obtain ⟨v, hv1, hv2, hv3⟩ := q55_eq (N := 2000) (a := a) (b := bc) (by omega) (by omega) (by omega)
  have hul := mul_len habl hc hu2 hu3
  obtain ⟨w, hw1, hw2, hw3⟩ := q62_eq (N := 2000) (a := a) (b := bc) (by omega) (by omega) (by omega)
  have hwl : w.length ≤ 13 := sum_len (k := 12) (by omega) (by omega) hw2 hw3
  have e1 : sc = t := eq_of_lv hsc2 ht2 (by rw [hsc3, hs3, ht3, hac3, hbc3, Nat.add_mul])
  have e2 : ab = ba := eq_of_lv hab2 hba2 (by rw [hab3, hba3, Nat.mul_comm])
  have e3 : u = v := eq_of_lv hu2 hv2 (by rw [hu3, hab3, hv3, hbc3, Nat.mul_assoc])
  rw [hs1]
  simp only [Option.bind_some]
  rw [hsc1, hac1, hbc1]
  simp only [Option.bind_some]
  rw [ht1]
  simp only [Option.bind_some]
  rw [q54_eq (by omega) (by omega)]
  simp only [Option.bind_some, e1, decide_true, cond_true]
  rw [hab1, hba1]
  simp only [Option.bind_some]
  rw [q54_eq (by omega) (by omega)]
  simp only [Option.bind_some, e2, decide_true, cond_true]
  rw [← e2, hu1, hv1]
  simp only [Option.bind_some]
  rw [q54_eq (by omega) (by omega)]
  simp only [Option.bind_some, e3, decide_true, Bool.not_true, cond_false]
  rcases q63_eq (N := 2000) (a := s) (b := b) (by omega) (by omega) (by omega) with ⟨h1, _⟩ | ⟨_, d, hd1, hd2, hd3⟩
  · omega
  rw [hd1]
  simp only [Option.bind_some]
  have hdl : lv d = lv a := by omega
  have hdlen : d.length ≤ 6 := Nrm_len hd2 (by rw [hdl]; exact lv_len ha)
  rw [show eqI 0 0 = true from rfl]
  simp only [Bool.not_true, cond_false]
  rw [q61_eq (by omega) (by omega) (by omega), hdl]
  simp only [Option.bind_some]
  rw [show cmpN (lv a) (lv a) = 0 by simp [cmpN], show eqI 0 0 = true from rfl]
  simp only [Bool.not_true, cond_false]
  rcases q52_eq (N := 2000) (a := a) (m := c) (by omega) (by omega) (Nat.le_refl _) with ⟨h1, h2⟩ | ⟨h1, r, h2, h3, h4⟩
  · rw [h2]
    simp only [Option.bind_some]
    rw [q61_eq (by omega) (by simp) (by simp; omega), h1]
    rfl
  · rw [h2]
    simp only [Option.bind_some]
    rw [show eqI 0 0 = true from rfl]
    simp only [Bool.not_true, cond_false]
    rw [hw1]
    simp only [Option.bind_some]
    rcases q52_eq (N := 2000) (a := w) (m := c) (by omega) (by omega) (Nat.le_refl _) with ⟨g1, _⟩ | ⟨_, q, g2, g3, g4⟩
    · omega
    rw [g2]
    simp only [Option.bind_some]
    have hrq : r = q := eq_of_lv h3 g3 (by rw [h4, g4, hw3, hbc3, Nat.add_mul_mod_self_right])
    have hrl : lv r < lv c := by rw [h4]; exact Nat.mod_lt _ h1
    have hrlen : r.length ≤ 6 := Nrm_len h3 (Nat.lt_trans hrl (lv_len hc))
    rw [q54_eq (by omega) (by omega)]
    simp only [Option.bind_some, hrq, decide_true, cond_true]
    rw [← hrq, q61_eq (by omega) (by omega) (by omega)]
    simp only [Option.bind_some]
    rw [show cmpN (lv r) (lv c) = -1 from if_pos hrl]
    rfl

end Go.Proofs.Ytgimohchocjgcaa.V
