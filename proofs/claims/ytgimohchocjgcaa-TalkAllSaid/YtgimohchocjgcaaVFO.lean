import Derived.Test.YtgimohchocjgcaaVFN
import Derived.Test.YtgimohchocjgcaaVLP
set_option linter.unusedVariables false
set_option linter.unusedSimpArgs false
namespace Go.Proofs.Ytgimohchocjgcaa.V
theorem mst {R : Type} {x : Option R} : must true x = x := rfl
def RR : Nat := 52435875175126190479447740508185965837690552500527637822603658699938581184513
def Binv : Nat := 12549076656233958353659347336803947287922716146853412054870763148006372261952
theorem binv_is : 18446744073709551616 ^ 4 * Binv % RR = 1 := by decide +kernel
def fv (x : Fr) : Nat := lv x.l
theorem fv_lt (x : Fr) : fv x < 18446744073709551616 ^ 4 := lv_lt x.l
theorem fr_ext {x y : Fr} (h : fv x = fv y) : x = y := by
  obtain ⟨a, b, c, d⟩ := x
  obtain ⟨a', b', c', d'⟩ := y
  simp only [fv, Fr.l, lv] at h
  have h1 := a.toNat_lt
  have h2 := b.toNat_lt
  have h3 := c.toNat_lt
  have h4 := d.toNat_lt
  have h5 := a'.toNat_lt
  have h6 := b'.toNat_lt
  have h7 := c'.toNat_lt
  have h8 := d'.toNat_lt
  have e1 : a.toNat = a'.toNat := by omega
  have e2 : b.toNat = b'.toNat := by omega
  have e3 : c.toNat = c'.toNat := by omega
  have e4 : d.toNat = d'.toNat := by omega
  rw [UInt64.toNat_inj.1 e1, UInt64.toNat_inj.1 e2, UInt64.toNat_inj.1 e3, UInt64.toNat_inj.1 e4]
theorem mac' (N : Nat) (x y t c : UInt64) : ∃ hi lo, q163 N x y = some (hi, lo, ()) ∧ ∃ s1 k1, kAdd t lo 0 = some (s1, k1) ∧ ∃ s2 k2, kAdd s1 c 0 = some (s2, k2) ∧ s2.toNat + 18446744073709551616 * (hi + k1 + k2).toNat = x.toNat * y.toNat + t.toNat + c.toNat := by
  obtain ⟨hi, lo, h1, h2⟩ := q163_eq N x y
  obtain ⟨s1, k1, h3, h4, h5⟩ := kAdd_eq (x := t) (y := lo) (c := 0) (by decide)
  obtain ⟨s2, k2, h6, h7, h8⟩ := kAdd_eq (x := s1) (y := c) (c := 0) (by decide)
  refine ⟨hi, lo, h1, s1, k1, h3, s2, k2, h6, ?_⟩
  have hz : (0 : UInt64).toNat = 0 := rfl
  have hxy : x.toNat * y.toNat ≤ 18446744073709551615 * 18446744073709551615 := Nat.mul_le_mul (by have := x.toNat_lt; omega) (by have := y.toNat_lt; omega)
  have ht := t.toNat_lt
  have hc := c.toNat_lt
  have hs := s2.toNat_lt
  rw [hz] at h5 h8
  have e : (hi + k1 + k2).toNat = hi.toNat + k1.toNat + k2.toNat := by
    rw [UInt64.toNat_add, UInt64.toNat_add]
    omega
  rw [e]
  omega
theorem kadd0 (x y : UInt64) : ∃ s d, kAdd x y 0 = some (s, d) ∧ d.toNat ≤ 1 ∧ s.toNat + 18446744073709551616 * d.toNat = x.toNat + y.toNat := by
  obtain ⟨s, d, h1, h2, h3⟩ := kAdd_eq (x := x) (y := y) (c := 0) (by decide)
  exact ⟨s, d, h1, h2, by simpa using h3⟩
end Go.Proofs.Ytgimohchocjgcaa.V
