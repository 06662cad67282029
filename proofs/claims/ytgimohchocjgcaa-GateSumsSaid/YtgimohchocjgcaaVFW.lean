/- Scalars' bytes; the statement FrBytes, of plain functions. -/
import Derived.Test.YtgimohchocjgcaaVFX
import Derived.Test.YtgimohchocjgcaaVLV
import Derived.KernelRfl
set_option linter.unusedVariables false
set_option linter.unusedSimpArgs false
namespace Go.Proofs.Ytgimohchocjgcaa.V

theorem q124_eq (a : Fr) : ∃ out, out.length = 32 ∧ bv out = fv a ∧ q124 2000 a = some (out, ()) ∧ q125 2000 a = some (out, ()) := by
  have hl : a.l.length = 4 := rfl
  have hf : Fits (cutL a.l) 32 := fun m hm => byt_zero (by have := cutL_len a.l; omega)
  have hq : q124 2000 a = Option.bind (q57 2000 a.l ((32 : Nat) : Int)) fun r0 => some (Prod.fst r0, ()) := rfl
  have hq2 : q125 2000 a = Option.bind (q58 2000 a.l ((32 : Nat) : Int)) fun r0 => some (Prod.fst r0, ()) := rfl
  rcases q57_eq (N := 2000) (a := a.l) (by omega) (Nat.le_refl _) 32 (by omega) with ⟨h, _⟩ | ⟨_, out, h1, h2⟩
  · exact absurd hf h
  rcases q58_eq (N := 2000) (a := a.l) (by omega) (Nat.le_refl _) 32 (by omega) with ⟨h, _⟩ | ⟨_, out2, g1, g2⟩
  · exact absurd hf h
  obtain rfl := isPut_unique h1 g1
  refine ⟨out, h1.1, ?_, by rw [hq, h2]; rfl, by rw [hq2, g2]; rfl⟩
  have e := bv_put h1 32 (Nat.le_refl _)
  rw [Nat.sub_self, List.drop_zero, lv_cutL, show (256 : Nat) ^ 32 = 18446744073709551616 ^ 4 from by decide, Nat.mod_eq_of_lt (show lv a.l < 18446744073709551616 ^ 4 from fv_lt a)] at e
  exact e

def tkF (b : List UInt8) : Fr × Int × Unit := if b.length < 32 then (⟨0, 0, 0, 0⟩, 2, ()) else if 32 < b.length then (⟨0, 0, 0, 0⟩, 8, ()) else if bv b < RR then (frN (bv b), 0, ()) else (⟨0, 0, 0, 0⟩, 4, ())

theorem bv_lt4 {b : List UInt8} (h : b.length = 32) : bv b < 18446744073709551616 ^ 4 := by
  have := bv_lt b
  rw [h, show (256 : Nat) ^ 32 = 18446744073709551616 ^ 4 from by decide] at this
  exact this

theorem q122_eq (b : List UInt8) : q122 2000 b = some (tkF b) := by
  unfold q122 tkF
  by_cases h1 : b.length < 32
  · rw [ltI_true (by omega), cond_true, if_pos h1]
  by_cases h2 : 32 < b.length
  · rw [ltI_false (by omega), cond_false, ltI_true (by omega), cond_true, if_neg h1, if_pos h2]
  have hb : b.length = 32 := by omega
  have hlt := bv_lt4 hb
  obtain ⟨s, s1, s2, s3⟩ := q59_eq (N := 2000) (b := b) (by omega) (Nat.le_refl _)
  have hsl : s.length ≤ 4 := Nrm_len s2 (by rw [s3]; exact hlt)
  rw [ltI_false (by omega), cond_false, ltI_false (by omega), cond_false, if_neg h1, if_neg h2, s1]
  simp only [bsm]
  rw [q203_eq hsl, s3]
  simp only [bsm, fr_eta']
  rw [q79_eq (by omega), fv_frN hlt]
  simp only [bsm]
  by_cases h3 : bv b < RR
  · rw [decide_eq_true h3, Bool.not_true, cond_false, if_pos h3]
  · rw [decide_eq_false h3, Bool.not_false, cond_true, if_neg h3]

theorem q123_eq (b : List UInt8) : q123 2000 b = some (tkF b) := by
  unfold q123 tkF
  by_cases h1 : b.length < 32
  · rw [ltI_true (by omega), cond_true, if_pos h1]
  by_cases h2 : 32 < b.length
  · rw [ltI_false (by omega), cond_false, ltI_true (by omega), cond_true, if_neg h1, if_pos h2]
  have hb : b.length = 32 := by omega
  have hlt := bv_lt4 hb
  obtain ⟨s, s1, s2, s3⟩ := q60_eq (N := 2000) (b := b) (by omega) (Nat.le_refl _)
  have hsl : s.length ≤ 4 := Nrm_len s2 (by rw [s3]; exact hlt)
  rw [ltI_false (by omega), cond_false, ltI_false (by omega), cond_false, if_neg h1, if_neg h2, s1]
  simp only [bsm]
  rw [q175_eq hsl, s3]
  simp only [bsm, fr_eta']
  rw [q69_eq (by omega), fv_frN hlt]
  simp only [bsm]
  by_cases h3 : bv b < RR
  · rw [decide_eq_true h3, Bool.not_true, cond_false, if_pos h3]
  · rw [decide_eq_false h3, Bool.not_false, cond_true, if_neg h3]

theorem bv_24 {b : List UInt8} (h : b.length ≤ 192) : bv b < 18446744073709551616 ^ 24 := by
  have := bv_lt b
  refine Nat.lt_of_lt_of_le this ?_
  rw [show (18446744073709551616 : Nat) ^ 24 = 256 ^ 192 from by decide +kernel]
  exact Nat.pow_le_pow_right (by decide) h

theorem q126_eq {b : List UInt8} (hb : b.length ≤ 192) : q126 2000 b = some (frN (bv b % RR), ()) := by
  obtain ⟨s, s1, s2, s3⟩ := q59_eq (N := 2000) (b := b) (by omega) (Nat.le_refl _)
  have hsl : s.length ≤ 24 := Nrm_len s2 (by rw [s3]; exact bv_24 hb)
  rcases q52_eq (N := 2000) (a := s) (m := mL) (by omega) (by decide) (Nat.le_refl _) with ⟨h, _⟩ | ⟨_, r, h2, h3, h4⟩
  · exact absurd h (by rw [lv_mL]; decide)
  rw [lv_mL, s3] at h4
  have hl : r.length ≤ 4 := Nrm_len h3 (by rw [h4]; exact Nat.lt_trans (mod_lt_RR _) RR_lt)
  unfold q126
  rw [s1]
  simp only [bsm]
  rw [show q74 2000 = some (mL, ()) from rfl]
  simp only [bsm]
  rw [show List.take (List.length mL) (List.drop 0 mL) = mL from rfl, h2]
  simp only [bsm]
  rw [q203_eq hl, h4]
  rfl

theorem m127_3_eq {N : Nat} (hN : 10 < N) (b : List UInt8) (hb : b.length < 1000000) (z : List UInt64) : ∀ (k n i : Nat) (x : Fr), i + k = b.length → k < n → fv x = bv (b.take i) % RR → m127_3 N n b (i : Int) z x.l = some (frN (bv b % RR), ()) := by
  intro k
  induction k with
  | zero =>
    intro n i x hi hn hx
    obtain ⟨n, rfl⟩ : ∃ m, n = m + 1 := ⟨n - 1, by omega⟩
    rw [m127_3_succ]
    unfold c127_3
    rw [ltI_false (by omega), cond_false, show List.length x.l = 4 from rfl, show Nat.beq 4 4 = true from rfl, mst2, show Fr.of? x.l = some x from rfl]
    simp only [bsm]
    rw [List.take_of_length_le (by omega)] at hx
    rw [← hx, frN_fv]
  | succ k ih =>
    intro n i x hi hn hx
    obtain ⟨n, rfl⟩ : ∃ m, n = m + 1 := ⟨n - 1, by omega⟩
    have hxl : fv x < RR := by rw [hx]; exact mod_lt_RR _
    have h256 : fv ⟨256, 0, 0, 0⟩ = 256 := by decide +kernel
    have hc : (UInt64.ofNat (b.getD i 0).toNat).toNat = (b.getD i 0).toNat := by
      have := (b.getD i 0).toNat_lt
      rw [UInt64.toNat_ofNat']
      omega
    have hcl : fv ⟨UInt64.ofNat (b.getD i 0).toNat, 0, 0, 0⟩ < RR := by
      have := (b.getD i 0).toNat_lt
      rw [fv_small, hc]
      exact Nat.lt_of_lt_of_le this (by decide)
    have h2 := ih n (i + 1) (frN ((fv x * 256 % RR + (b.getD i 0).toNat) % RR)) (by omega) (by omega) (by
      rw [fv_mod, bv_take b i (by omega), hx, Nat.mod_mul_mod, Nat.mod_add_mod])
    rw [m127_3_succ]
    unfold c127_3
    rw [ltI_true (by omega), cond_true, q173_is, show Fr.of? x.l = some x from rfl]
    simp only [bsm, fr_eta']
    rw [q94_eq hN (by rw [h256]; decide), h256]
    simp only [bsm]
    rw [leI_zero, Bool.and_self, mst2, Int.toNat_natCast, q173_is]
    simp only [bsm]
    rw [q81_eq hN (by rw [fv_mod]; exact mod_lt_RR _) hcl, fv_mod, fv_small, hc, wr_add1 (by omega)]
    exact h2

theorem q127_eq {b : List UInt8} (hb : b.length < 1900) : q127 2000 b = some (frN (bv b % RR), ()) :=
  m127_3_eq (by omega) b (by omega) [0, 0, 0, 0] b.length 2000 0 ⟨0, 0, 0, 0⟩ (by omega) (by omega) (by rw [fv_zero]; rfl)

theorem fr_bytes_plain (a : Fr) (b : List UInt8) : q30 2000 a b = some (true, ()) := by
  have hN : 10 < 2000 := by omega
  unfold q30
  rw [frbegun]
  simp only [bsm, Bool.not_true, cfl, fr_eta', eqL_frF, eqL_frl]
  by_cases hb : b.length ≤ 192
  case neg => rw [ltI_true (by omega), cond_true]
  rw [ltI_false (by omega), cond_false, q69_eq hN a]
  simp only [bsm]
  by_cases ha : fv a < RR
  case neg => rw [decide_eq_false ha, Bool.not_false, cond_true]
  obtain ⟨out, o1, o2, o3, o4⟩ := q124_eq a
  have ht : tkF out = (a, 0, ()) := by
    unfold tkF
    rw [if_neg (by omega), if_neg (by omega), o2, if_pos ha, frN_fv]
  obtain ⟨s, s1, s2, s3⟩ := q60_eq (N := 2000) (b := b) (by omega) (Nat.le_refl _)
  have hsl : s.length ≤ 24 := Nrm_len s2 (by rw [s3]; exact bv_24 hb)
  rw [decide_eq_true ha, Bool.not_true, cond_false, q122_eq, q123_eq, o3]
  simp only [bsm]
  rw [q122_eq, ht]
  simp only [bsm]
  rw [o4]
  simp only [bsm]
  rw [show eqB out out = true by simp [eqB], cond_true, eqF_self, cond_true, eqI_true rfl, cond_true, eqI_true rfl, cond_true, eqF_self, cond_true, q126_eq hb, q127_eq (by omega)]
  simp only [bsm, eqF_self, ctr]
  rw [s1]
  simp only [bsm]
  rw [q86_eq (Nat.le_refl _) (by omega), s3]
  simp only [bsm, eqF_self]

end Go.Proofs.Ytgimohchocjgcaa.V
