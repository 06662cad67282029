import Derived.Test.YtgimohchocjgcaaVFR
import Derived.KernelRfl
set_option linter.unusedVariables false
set_option linter.unusedSimpArgs false
namespace Go.Proofs.Ytgimohchocjgcaa.V
def frN (n : Nat) : Fr := ⟨UInt64.ofNat n, UInt64.ofNat (n / 18446744073709551616), UInt64.ofNat (n / 18446744073709551616 / 18446744073709551616), UInt64.ofNat (n / 18446744073709551616 / 18446744073709551616 / 18446744073709551616)⟩
theorem fv_frN {n : Nat} (h : n < 18446744073709551616 ^ 4) : fv (frN n) = n := by
  simp only [fv, frN, Fr.l, lv, UInt64.toNat_ofNat']
  omega
theorem RR_lt : RR < 18446744073709551616 ^ 4 := by decide
theorem is_frN {x : Fr} {n : Nat} (h : fv x = n) : x = frN n := fr_ext (by rw [fv_frN (by rw [← h]; exact fv_lt x), h])
theorem frN_fv (x : Fr) : frN (fv x) = x := (is_frN rfl).symm
theorem eqL_fr (x y : Fr) : eqL El.u64 [x.a0, x.a1, x.a2, x.a3] [y.a0, y.a1, y.a2, y.a3] = decide (x = y) := by
  obtain ⟨a, b, c, d⟩ := x
  obtain ⟨a', b', c', d'⟩ := y
  rw [Bool.eq_iff_iff, decide_eq_true_iff]
  simp [eqL, eqE, eq64, and_assoc]
where
  alg4 (B A1 A2 A3 P x y c s d : Nat) (hv : A1 + P * c = A2 + A3) (h3 : s + B * d = x + y + c) : A1 + P * s + P * B * d = A2 + P * x + (A3 + P * y) := by
    have e : P * (s + B * d) = P * (x + y + c) := by rw [h3]
    grind
theorem spl4 {l : List UInt64} (h : l.length ≤ 4) : ∃ x, Fr.of? (splice [(0 : UInt64), 0, 0, 0] (Int.toNat 0) (List.take (Int.toNat (((4 : Nat) : Int) - 0)) l)) = some x ∧ (splice [(0 : UInt64), 0, 0, 0] (Int.toNat 0) (List.take (Int.toNat (((4 : Nat) : Int) - 0)) l)).length = 4 ∧ fv x = lv l := by
  rw [show Int.toNat (((4 : Nat) : Int) - 0) = 4 from rfl, List.take_of_length_le h]
  match l, h with
  | [], _ => exact ⟨(⟨0, 0, 0, 0⟩ : Fr), rfl, rfl, by simp [fv, Fr.l, lv]⟩
  | [a], _ => exact ⟨(⟨a, 0, 0, 0⟩ : Fr), rfl, rfl, by simp [fv, Fr.l, lv]⟩
  | [a, b], _ => exact ⟨(⟨a, b, 0, 0⟩ : Fr), rfl, rfl, by simp [fv, Fr.l, lv]⟩
  | [a, b, c], _ => exact ⟨(⟨a, b, c, 0⟩ : Fr), rfl, rfl, by simp [fv, Fr.l, lv]⟩
  | [a, b, c, d], _ => exact ⟨(⟨a, b, c, d⟩ : Fr), rfl, rfl, by simp [fv, Fr.l, lv]⟩
theorem q203_eq {N : Nat} {l : List UInt64} (h : l.length ≤ 4) : q203 N l = some (frN (lv l), ()) := by
  obtain ⟨x, h1, h2, h3⟩ := spl4 h
  unfold q203
  rw [h2, h1, show Nat.beq 4 4 = true from rfl]
  simp only [mst2, bsm]
  rw [← h3, frN_fv]
end Go.Proofs.Ytgimohchocjgcaa.V
