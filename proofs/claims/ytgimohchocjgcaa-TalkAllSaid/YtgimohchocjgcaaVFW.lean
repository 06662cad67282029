import Derived.Test.YtgimohchocjgcaaVFV
import Derived.KernelRfl
import Derived.Test.YtgimohchocjgcaaVLU
set_option linter.unusedVariables false
set_option linter.unusedSimpArgs false
namespace Go.Proofs.Ytgimohchocjgcaa.V
theorem bv_24 {b : List UInt8} (h : b.length ≤ 192) : bv b < 18446744073709551616 ^ 24 := by
  have := bv_lt b
  refine Nat.lt_of_lt_of_le this ?_
  rw [show (18446744073709551616 : Nat) ^ 24 = 256 ^ 192 from by decide +kernel]
  exact Nat.pow_le_pow_right (by decide) h
theorem q126_eq {b : List UInt8} (hb : b.length ≤ 192) : q126 2000 b = some (frN (bv b % RR), ()) := by
  obtain ⟨s, s1, s2, s3⟩ := q59_eq (N := 2000) (b := b) (by omega) (Nat.le_refl _)
  have hsl : s.length ≤ 24 := Nrm_len s2 (by rw [s3]; exact bv_24 hb)
  rcases q52_eq (N := 2000) (a := s) (m := mL) (by omega) (by decide) (Nat.le_refl _) with ⟨h, _⟩ | ⟨_, r, h2, h3, h4⟩
  · exact absurd h (by rw [lv_mL]; decide)
  rw [lv_mL, s3] at h4
  have hl : r.length ≤ 4 := Nrm_len h3 (by rw [h4]; exact Nat.lt_trans (mod_lt_RR _) RR_lt)
  unfold q126
  rw [s1]
  simp only [bsm]
  rw [show q74 2000 = some (mL, ()) from rfl]
  simp only [bsm]
  rw [show List.take (List.length mL) (List.drop 0 mL) = mL from rfl, h2]
  simp only [bsm]
  rw [q203_eq hl, h4]
  rfl
theorem m127_3_eq {N : Nat} (hN : 10 < N) (b : List UInt8) (hb : b.length < 1000000) (z : List UInt64) : ∀ (k n i : Nat) (x : Fr), i + k = b.length → k < n → fv x = bv (b.take i) % RR → m127_3 N n b (i : Int) z x.l = some (frN (bv b % RR), ()) := by
  intro k
  induction k with
  | zero =>
    intro n i x hi hn hx
    obtain ⟨n, rfl⟩ : ∃ m, n = m + 1 := ⟨n - 1, by omega⟩
    rw [m127_3_succ]
    unfold c127_3
    rw [ltI_false (by omega), cond_false, show List.length x.l = 4 from rfl, show Nat.beq 4 4 = true from rfl, mst2, show Fr.of? x.l = some x from rfl]
    simp only [bsm]
    rw [List.take_of_length_le (by omega)] at hx
    rw [← hx, frN_fv]
  | succ k ih =>
    intro n i x hi hn hx
    obtain ⟨n, rfl⟩ : ∃ m, n = m + 1 := ⟨n - 1, by omega⟩
    have hxl : fv x < RR := by rw [hx]; exact mod_lt_RR _
    have h256 : fv ⟨256, 0, 0, 0⟩ = 256 := by decide +kernel
    have hc : (UInt64.ofNat (b.getD i 0).toNat).toNat = (b.getD i 0).toNat := by
      have := (b.getD i 0).toNat_lt
      rw [UInt64.toNat_ofNat']
      omega
    have hcl : fv ⟨UInt64.ofNat (b.getD i 0).toNat, 0, 0, 0⟩ < RR := by
      have := (b.getD i 0).toNat_lt
      rw [fv_small, hc]
      exact Nat.lt_of_lt_of_le this (by decide)
    have h2 := ih n (i + 1) (frN ((fv x * 256 % RR + (b.getD i 0).toNat) % RR)) (by omega) (by omega) (by
      rw [fv_mod, bv_take b i (by omega), hx, Nat.mod_mul_mod, Nat.mod_add_mod])
    rw [m127_3_succ]
    unfold c127_3
    rw [ltI_true (by omega), cond_true, q173_is, show Fr.of? x.l = some x from rfl]
    simp only [bsm, fr_eta']
    rw [q94_eq hN (by rw [h256]; decide), h256]
    simp only [bsm]
    rw [leI_zero, Bool.and_self, mst2, Int.toNat_natCast, q173_is]
    simp only [bsm]
    rw [q81_eq hN (by rw [fv_mod]; exact mod_lt_RR _) hcl, fv_mod, fv_small, hc, wr_add1 (by omega)]
    exact h2
theorem q127_eq {b : List UInt8} (hb : b.length < 1900) : q127 2000 b = some (frN (bv b % RR), ()) :=
  m127_3_eq (by omega) b (by omega) [0, 0, 0, 0] b.length 2000 0 ⟨0, 0, 0, 0⟩ (by omega) (by omega) (by rw [fv_zero]; rfl)
end Go.Proofs.Ytgimohchocjgcaa.V
