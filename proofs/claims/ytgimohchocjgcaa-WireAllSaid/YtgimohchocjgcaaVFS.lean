import Derived.Test.YtgimohchocjgcaaVFR
import Derived.KernelRfl
set_option linter.unusedVariables false
set_option linter.unusedSimpArgs false
namespace Go.Proofs.Ytgimohchocjgcaa.V
def frN (n : Nat) : Fr := ⟨UInt64.ofNat n, UInt64.ofNat (n / 18446744073709551616), UInt64.ofNat (n / 18446744073709551616 / 18446744073709551616), UInt64.ofNat (n / 18446744073709551616 / 18446744073709551616 / 18446744073709551616)⟩
theorem fv_frN {n : Nat} (h : n < 18446744073709551616 ^ 4) : fv (frN n) = n := by
  simp only [fv, frN, Fr.l, lv, UInt64.toNat_ofNat']
  omega
theorem RR_lt : RR < 18446744073709551616 ^ 4 := by decide
theorem fv_frN' {n : Nat} (h : n < RR) : fv (frN n) = n := fv_frN (Nat.lt_trans h RR_lt)
theorem fv_mod (n : Nat) : fv (frN (n % RR)) = n % RR := fv_frN' (mod_lt_RR n)
theorem is_frN {x : Fr} {n : Nat} (h : fv x = n) : x = frN n := fr_ext (by rw [fv_frN (by rw [← h]; exact fv_lt x), h])
theorem eqL_fr (x y : Fr) : eqL El.u64 [x.a0, x.a1, x.a2, x.a3] [y.a0, y.a1, y.a2, y.a3] = decide (x = y) := by
  obtain ⟨a, b, c, d⟩ := x
  obtain ⟨a', b', c', d'⟩ := y
  rw [Bool.eq_iff_iff, decide_eq_true_iff]
  simp [eqL, eqE, eq64, and_assoc]
where
  alg4 (B A1 A2 A3 P x y c s d : Nat) (hv : A1 + P * c = A2 + A3) (h3 : s + B * d = x + y + c) : A1 + P * s + P * B * d = A2 + P * x + (A3 + P * y) := by
    have e : P * (s + B * d) = P * (x + y + c) := by rw [h3]
    grind
end Go.Proofs.Ytgimohchocjgcaa.V
