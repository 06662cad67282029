import Derived.Test.YtgimohchocjgcaaVFV
import Derived.KernelRfl
import Derived.Test.YtgimohchocjgcaaVLU
set_option linter.unusedVariables false
set_option linter.unusedSimpArgs false
namespace Go.Proofs.Ytgimohchocjgcaa.V
theorem bv_24 {b : List UInt8} (h : b.length ≤ 192) : bv b < 18446744073709551616 ^ 24 := by
  have := bv_lt b
  refine Nat.lt_of_lt_of_le this ?_
  rw [show (18446744073709551616 : Nat) ^ 24 = 256 ^ 192 from by decide +kernel]
  exact Nat.pow_le_pow_right (by decide) h
theorem q126_eq {b : List UInt8} (hb : b.length ≤ 192) : q126 2000 b = some (frN (bv b % RR), ()) := by
  obtain ⟨s, s1, s2, s3⟩ := q59_eq (N := 2000) (b := b) (by omega) (Nat.le_refl _)
  have hsl : s.length ≤ 24 := Nrm_len s2 (by rw [s3]; exact bv_24 hb)
  rcases q52_eq (N := 2000) (a := s) (m := mL) (by omega) (by decide) (Nat.le_refl _) with ⟨h, _⟩ | ⟨_, r, h2, h3, h4⟩
  · exact absurd h (by rw [lv_mL]; decide)
  rw [lv_mL, s3] at h4
  have hl : r.length ≤ 4 := Nrm_len h3 (by rw [h4]; exact Nat.lt_trans (mod_lt_RR _) RR_lt)
  unfold q126
  rw [s1]
  simp only [bsm]
  rw [show q74 2000 = some (mL, ()) from rfl]
  simp only [bsm]
  rw [show List.take (List.length mL) (List.drop 0 mL) = mL from rfl, h2]
  simp only [bsm]
  rw [q203_eq hl, h4]
  rfl
end Go.Proofs.Ytgimohchocjgcaa.V
