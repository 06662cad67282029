/- The statements FrAll, FrPowers, FrField, FrExponents, of plain functions. -/
import Derived.Test.YtgimohchocjgcaaVFV
import Derived.KernelRfl
set_option linter.unusedVariables false
set_option linter.unusedSimpArgs false
namespace Go.Proofs.Ytgimohchocjgcaa.V

/-! ### The statements -/

theorem fr_all_plain (a b : Fr) (n : UInt64) : q16 2000 a b n = some (true, ()) := by
  have hN : 10 < 2000 := by omega
  have e1 : List.take (Int.toNat (((4 : Nat) : Int) - 0)) [a.a0, a.a1, a.a2, a.a3] = a.l := rfl
  have e2 : List.take (Int.toNat (((4 : Nat) : Int) - 0)) [b.a0, b.a1, b.a2, b.a3] = b.l := rfl
  unfold q16
  rw [frbegun]
  simp only [bsm, Bool.not_true, cfl, fr_eta', eqL_frF, eqL_frl]
  rw [q69_eq hN a]
  simp only [bsm]
  by_cases ha : fv a < RR
  case neg =>
    rw [decide_eq_false ha, Bool.not_false, cond_true, q79_eq hN a, decide_eq_false ha]
    simp only [bsm]
    rw [show (false == false) = true from rfl, cond_true, q79_eq hN b, q69_eq hN b]
    simp only [bsm]
    rw [beq_self_eq_true]
  rw [decide_eq_true ha, Bool.not_true, cond_false, q69_eq hN b]
  simp only [bsm]
  by_cases hb : fv b < RR
  case neg =>
    rw [decide_eq_false hb, Bool.not_false, cond_true, q79_eq hN a, decide_eq_true ha]
    simp only [bsm]
    rw [show (true == true) = true from rfl, cond_true, q79_eq hN b, decide_eq_false hb]
    simp only [bsm]
    rfl
  rw [decide_eq_true hb, Bool.not_true, cond_false, q80_eq hN ha hb, q81_eq hN ha hb]
  simp only [bsm, eqF_self, ctr]
  rw [q82_eq hN ha hb, q83_eq hN ha hb]
  simp only [bsm, eqF_self, ctr]
  rw [q84_eq hN ha, q85_eq hN ha]
  simp only [bsm, eqF_self, ctr]
  rw [q76_eq' hN ha, e1, e2]
  obtain ⟨s, h1, h2, (h3 : lv s = fv a * fv b)⟩ := q67_eq (N := 2000) (a := a.l) (b := b.l) (show 4 < 100 by omega) (show 4 < 100 by omega) (by omega)
  have hsl : s.length ≤ 8 := Nrm_len h2 (by
    rw [h3, show 18446744073709551616 ^ 8 = 18446744073709551616 ^ 4 * 18446744073709551616 ^ 4 from rfl]
    exact Nat.mul_lt_mul_of_lt_of_lt (fv_lt a) (fv_lt b))
  rw [h1]
  simp only [bsm]
  rw [q86_eq (Nat.le_refl _) (by omega), h3]
  simp only [bsm, eqF_self, ctr]
  rw [q75_is]
  simp only [bsm, eqF_self, ctr]
  rw [q74_is, q88_is]
  simp only [bsm]
  rw [mL_take, q87_mL]
  simp only [bsm]
  rw [cond_true, q79_eq hN a, decide_eq_true ha]
  rfl

theorem fr_powers_plain (a : Fr) (e : List UInt64) : q13 2000 a e = some (true, ()) := by
  have hN : 10 < 2000 := by omega
  unfold q13
  rw [frbegun]
  simp only [bsm, Bool.not_true, cfl, fr_eta', eqL_frF, eqL_frl]
  rw [q69_eq hN a]
  simp only [bsm]
  by_cases ha : fv a < RR
  case neg => rw [decide_eq_false ha, Bool.not_false, cond_true]
  rw [decide_eq_true ha, Bool.not_true, cond_false]
  by_cases he : e.length ≤ 5
  case neg => rw [ltI_true (by omega), cond_true]
  rw [ltI_false (by omega), cond_false, q70_eq (by omega) ha, q71_eq (by omega) ha, q72_eq ha (by omega) (by omega), q73_eq ha (by omega) (by omega)]
  generalize frN (fv a ^ lv e % RR) = x
  generalize frN (fv a ^ (RR - 2) % RR) = y
  split
  · simp only [bsm, eqF_self, ctr]
    rw [eqI_true rfl]
  · simp only [bsm, eqF_self, ctr]
    rw [eqI_true rfl]

theorem fr_exponents_plain (a : Fr) (d e : List UInt64) : q14 2000 a d e = some (true, ()) := by
  have hN : 10 < 2000 := by omega
  have h1 : lv [(1 : UInt64)] = 1 := by decide
  unfold q14
  rw [frbegun]
  simp only [bsm, Bool.not_true, cfl, fr_eta', eqL_frF, eqL_frl]
  rw [q69_eq hN a]
  simp only [bsm]
  by_cases ha : fv a < RR
  case neg => rw [decide_eq_false ha, Bool.not_false, cond_true]
  rw [decide_eq_true ha, Bool.not_true, cond_false]
  by_cases hd : d.length ≤ 4
  case neg => rw [ltI_true (by omega), cond_true]
  rw [ltI_false (by omega), cond_false]
  by_cases he : e.length ≤ 4
  case neg => rw [ltI_true (by omega), cond_true]
  rw [ltI_false (by omega), cond_false, q74_is]
  simp only [bsm]
  rw [mL_take]
  rcases q64_eq (N := 2000) (a := mL) (b := [1]) (by decide) (by decide) (by decide) with ⟨g1, _⟩ | ⟨g1, r, g2, g3, g4⟩
  · exact absurd g1 (by rw [lv_mL, h1]; decide)
  rw [lv_mL, h1] at g4
  have hrl : r.length ≤ 4 := Nrm_len g3 (by rw [g4]; decide)
  obtain ⟨s, s1, s2, s3⟩ := q66_eq (N := 2000) (a := d) (b := e) (by omega) (by omega) (by omega)
  have hsl := sum_len hd he s2 s3
  rw [g2]
  simp only [bsm]
  rw [q75_is, q75_is]
  simp only [bsm]
  have hp : (fv (frN (fv a ^ lv d % RR)) * fv (frN (fv a ^ lv e % RR))) % RR = fv a ^ lv s % RR := by
    rw [fv_mod, fv_mod, ← Nat.mul_mod, s3, Nat.pow_add]
  have hlt : fv (frN (fv a ^ lv d % RR)) < RR := by rw [fv_mod]; exact mod_lt_RR _
  have hnil : frN (fv a ^ lv [] % RR) = ⟨1, 0, 0, 0⟩ := by
    rw [show lv [] = 0 from rfl, Nat.pow_zero, ← frN_one]
    rfl
  by_cases hz : a = ⟨0, 0, 0, 0⟩
  · have hf : frN (fv a ^ lv r % RR) = a := by
      rw [g4, hz, fv_zero, Nat.zero_pow (by decide), Nat.zero_mod, frN_zero]
    rw [eqF_true hz, cond_true, q72_eq ha (by omega) (by omega), q72_eq ha (by omega) (by omega), s1]
    simp only [bsm]
    rw [q76_eq' hN hlt, hp, q72_eq ha (by omega) (by omega)]
    simp only [bsm, eqF_self, ctr]
    rw [q72_eq ha (by omega) (by omega), hf]
    simp only [bsm, eqF_self, ctr]
    rw [q72_eq ha (by decide) (by decide), hnil]
    simp only [bsm, eqF_self]
  · have hz0 : fv a ≠ 0 := fun h => hz ((fr_zero a).2 h)
    have hf : frN (fv a ^ lv r % RR) = ⟨1, 0, 0, 0⟩ := by
      rw [g4, cg_one (fermat (by omega) ha), frN_one]
    rw [eqF_false hz, cond_false, q72_eq ha (by omega) (by omega), q72_eq ha (by omega) (by omega), s1]
    simp only [bsm]
    rw [q76_eq' hN hlt, hp, q72_eq ha (by omega) (by omega)]
    simp only [bsm, eqF_self, ctr]
    rw [q72_eq ha (by omega) (by omega), hf]
    simp only [bsm, eqF_self, ctr]
    rw [q72_eq ha (by decide) (by decide), hnil]
    simp only [bsm, eqF_self]

theorem cg_fr {m n : Nat} (h : Cg m n) : frN (m % RR) = frN (n % RR) := by
  unfold Cg at h
  rw [h]

theorem cg_sub {a b : Nat} (hb : b < RR) : Cg ((a + b) % RR + (RR - b)) a := by
  have h := (Cg.mod (a + b)).add (Cg.rfl' (a := RR - b))
  rw [show a + b + (RR - b) = a + RR by omega] at h
  refine h.trans ?_
  unfold Cg
  rw [Nat.add_mod_right]

theorem fr_field_plain (a b c : Fr) : q17 2000 a b c = some (true, ()) := by
  have hN : 10 < 2000 := by omega
  have hm : ∀ n, fv (frN (n % RR)) < RR := fun n => by rw [fv_mod]; exact mod_lt_RR _
  unfold q17
  rw [frbegun]
  simp only [bsm, Bool.not_true, cfl, fr_eta', eqL_frF, eqL_frl]
  rw [q69_eq hN a]
  simp only [bsm]
  by_cases ha : fv a < RR
  case neg => rw [decide_eq_false ha, Bool.not_false, cond_true]
  rw [decide_eq_true ha, Bool.not_true, cond_false, q69_eq hN b]
  simp only [bsm]
  by_cases hb : fv b < RR
  case neg => rw [decide_eq_false hb, Bool.not_false, cond_true]
  rw [decide_eq_true hb, Bool.not_true, cond_false, q69_eq hN c]
  simp only [bsm]
  by_cases hc : fv c < RR
  case neg => rw [decide_eq_false hc, Bool.not_false, cond_true]
  rw [decide_eq_true hc, Bool.not_true, cond_false]
  have d1 : ∀ x y z : Nat, Cg ((x + y) % RR * z) (x * z % RR + y * z % RR) := fun x y z => by
    refine ((Cg.mod _).mul Cg.rfl').trans ?_
    rw [Nat.add_mul]
    exact (Cg.mod _).symm.add (Cg.mod _).symm
  have d2 : ∀ x y z : Nat, Cg (x * (y * z % RR)) (x * y % RR * z) := fun x y z => by
    refine (Cg.rfl'.mul (Cg.mod _)).trans ?_
    rw [← Nat.mul_assoc]
    exact (Cg.mod _).symm.mul Cg.rfl'
  have d3 : ∀ x y z : Nat, Cg (x + (y + z) % RR) ((x + y) % RR + z) := fun x y z => by
    refine (Cg.rfl'.add (Cg.mod _)).trans ?_
    rw [← Nat.add_assoc]
    exact (Cg.mod _).symm.add Cg.rfl'
  have hz7 : (a = ⟨0, 0, 0, 0⟩) ↔ fv a = 0 := fr_zero a
  obtain ⟨w, i, hr, hk⟩ : ∃ w i, q70 2000 a = some (w, i, ()) ∧ ((fv a = 0 ∧ i = 7) ∨ (fv a ≠ 0 ∧ i = 0 ∧ fv w < RR ∧ fv w * fv a % RR = 1)) := by
    by_cases h0 : fv a = 0
    · exact ⟨a, 7, q70_zero ha h0, Or.inl ⟨h0, rfl⟩⟩
    · obtain ⟨w, h1, h2, h3⟩ := q70_inv ha h0
      exact ⟨w, 0, h1, Or.inr ⟨h0, rfl, h2, h3⟩⟩
  rw [hr]
  simp only [bsm]
  rw [q80_eq hN ha hb]
  simp only [bsm]
  rw [q76_eq' hN (hm _), fv_mod, q76_eq' hN ha, q76_eq' hN hb]
  simp only [bsm]
  rw [q80_eq hN (hm _) (hm _), fv_mod, fv_mod, cg_fr (d1 _ _ _)]
  simp only [bsm, eqF_self, ctr]
  rw [q76_eq' hN ha, fv_mod, q76_eq' hN ha]
  simp only [bsm]
  rw [q76_eq' hN (hm _), fv_mod, cg_fr (d2 _ _ _)]
  simp only [bsm, eqF_self, ctr]
  rw [q80_eq hN hb hc]
  simp only [bsm]
  rw [q80_eq hN ha (hm _), fv_mod]
  simp only [bsm]
  rw [q80_eq hN (hm _) hc, fv_mod, cg_fr (d3 _ _ _)]
  simp only [bsm, eqF_self, ctr]
  rw [q76_eq' hN hb, Nat.mul_comm (fv b) (fv a)]
  simp only [bsm, eqF_self, ctr]
  rw [q82_eq hN (hm _) hb, fv_mod, cg_fr (cg_sub hb), Nat.mod_eq_of_lt ha, frN_fv]
  simp only [bsm, eqF_self, ctr]
  rw [q84_eq hN ha]
  simp only [bsm]
  have e0 : (fv a + (RR - fv a) % RR) % RR = 0 := by
    rw [Nat.add_mod_mod, show fv a + (RR - fv a) = RR by omega, Nat.mod_self]
  rw [q80_eq hN ha (hm _), fv_mod, e0, frN_zero, q75_is]
  simp only [bsm, eqF_self, ctr]
  rw [q75_is]
  simp only [bsm]
  rw [q76_eq' hN ha, fv_one, Nat.mul_one, Nat.mod_eq_of_lt ha, frN_fv]
  simp only [bsm, eqF_self, ctr]
  rcases hk with ⟨h0, rfl⟩ | ⟨h0, rfl, h2, h3⟩
  · rw [eqF_true (hz7.2 h0), cond_true, eqI_true rfl, cond_true]
  · rw [eqF_false (fun h => h0 (hz7.1 h)), cond_false, eqI_true rfl, cond_true, q76_eq' hN ha, Nat.mul_comm (fv a), h3, frN_one]
    simp only [bsm, eqF_self]

end Go.Proofs.Ytgimohchocjgcaa.V
