import Derived.Test.YtgimohchocjgcaaVFT
import Derived.Test.YtgimohchocjgcaaVUM
import Derived.Test.YtgimohchocjgcaaVLN
import Derived.KernelRfl
import Derived.Test.YtgimohchocjgcaaVLP
set_option linter.unusedVariables false
set_option linter.unusedSimpArgs false
namespace Go.Proofs.Ytgimohchocjgcaa.V
theorem fr_eta' (x : Fr) : Fr.mk x.a0 x.a1 x.a2 x.a3 = x := rfl
theorem zero_fr : Fr.mk 0 0 0 0 = Fr.zero := rfl
def eqF (x y : Fr) : Bool := decide (x = y)
theorem eqL_frF (x y : Fr) : eqL El.u64 [x.a0, x.a1, x.a2, x.a3] [y.a0, y.a1, y.a2, y.a3] = eqF x y := eqL_fr x y
theorem eqL_frl (x : Fr) (n : UInt64) : eqL El.u64 [x.a0, x.a1, x.a2, x.a3] [n, (0 : UInt64), (0 : UInt64), (0 : UInt64)] = eqF x ⟨n, 0, 0, 0⟩ := eqL_fr x ⟨n, 0, 0, 0⟩
theorem shl63 (x : UInt64) : (shl64 x 63).toNat = 2 ^ 63 * (x.toNat % 2) := by
  unfold shl64
  rw [UInt64.toNat_ofNat']
  omega
theorem shr_or (x y : UInt64) : (shr64 x 1 ||| shl64 y 63).toNat = x.toNat / 2 + 9223372036854775808 * (y.toNat % 2) := by
  have hx := x.toNat_lt
  rw [UInt64.toNat_or, shl63, shr64_nat, Nat.or_comm, ← Nat.two_pow_add_eq_or_of_lt (by omega)]
  omega
theorem shr_or0 (x : UInt64) : (shr64 x 1 ||| 0).toNat = x.toNat / 2 := by
  have h : (shr64 x 1 ||| 0) = shr64 x 1 := by simp
  rw [h, shr64_nat]
theorem halve (a b c d : UInt64) : lv [shr64 a 1 ||| shl64 b 63, shr64 b 1 ||| shl64 c 63, shr64 c 1 ||| shl64 d 63, shr64 d 1 ||| 0] = lv [a, b, c, d] / 2 := by
  simp only [lv]
  rw [shr_or, shr_or, shr_or, shr_or0]
  omega
set_option maxRecDepth 100000 in
theorem m77_9_out (N : Nat) (A : Int → Int → List UInt64 → List UInt64 → Option (Fr × Int × Unit)) (n : Nat) (t s : Int) (z : List UInt64) (a b c d : UInt64) :
    m77_9 N A (n + 5) 0 3 t s z [a, b, c, d] = A t (wr (s + 1)) z [shr64 a 1 ||| shl64 b 63, shr64 b 1 ||| shl64 c 63, shr64 c 1 ||| shl64 d 63, shr64 d 1 ||| 0] := by kernel_rfl
theorem list4 {α : Type} {l : List α} (h : l.length = 4) : ∃ a b c d, l = [a, b, c, d] := by
  match l, h with
  | [a, b, c, d], _ => exact ⟨a, b, c, d, rfl⟩
def rootN (log : Nat) : Nat := 7 ^ ((RR - 1) / 2 ^ log) % RR
theorem m77_6_eq {N : Nat} (hN : 500 < N) (log : Nat) (hlog : log ≤ 32) (z : List UInt64) : ∀ (k n j : Nat) (e : List UInt64), j + k = log → k < n → e.length = 4 → lv e = (RR - 1) / 2 ^ j → m77_6 N n (log : Int) (j : Int) z e = some (frN (rootN log), 0, ()) := by
  intro k
  induction k with
  | zero =>
    intro n j e hj hn he hv
    obtain ⟨n, rfl⟩ : ∃ m, n = m + 1 := ⟨n - 1, by omega⟩
    obtain rfl : j = log := by omega
    have e4 : List.take (Int.toNat (((4 : Nat) : Int) - 0)) e = e := List.take_of_length_le (by rw [he]; decide)
    have hq := q72_eq (N := N) (a := ⟨7, 0, 0, 0⟩) (e := e) (by rw [fv_small]; decide) (by omega) (by omega)
    rw [m77_6_succ]
    unfold c77_6
    rw [ltI_false (by omega), cond_false, e4, show q75 N 7 = some ((⟨7, 0, 0, 0⟩ : Fr), ()) from rfl]
    simp only [bsm, fr_eta']
    rw [hq]
    simp only [bsm, fr_eta']
    rw [fv_small, hv]
    rfl
  | succ k ih =>
    intro n j e hj hn he hv
    obtain ⟨n, rfl⟩ : ∃ m, n = m + 1 := ⟨n - 1, by omega⟩
    obtain ⟨M, rfl⟩ : ∃ M, N = M + 5 := ⟨N - 5, by omega⟩
    obtain ⟨a, b, c, d, rfl⟩ := list4 he
    rw [m77_6_succ]
    unfold c77_6
    rw [ltI_true (by omega), cond_true, m77_9_out, wr_add1 (by omega)]
    refine ih n (j + 1) _ (by omega) (by omega) rfl ?_
    rw [halve, hv, Nat.div_div_eq_div_mul, Nat.pow_succ]
theorem q77_eq {N : Nat} (hN : 500 < N) {log : Nat} (h : log ≤ 32) : q77 N (log : Int) = some (frN (rootN log), 0, ()) := by
  have hl : lv [18446744069414584320, 6034159408538082302, 3691218898639771653, 8353516859464449352] = (RR - 1) / 2 ^ 0 := by decide +kernel
  unfold q77
  rw [ltI_false (by omega), cond_false, ltI_false (by omega), cond_false]
  rw [show q169 N = some ((⟨18446744069414584321, 6034159408538082302, 3691218898639771653, 8353516859464449352⟩ : Fr), ()) from rfl]
  simp only [bsm]
  exact m77_6_eq hN log h [0, 0, 0, 0] log N 0 _ (by omega) (by omega) rfl hl
theorem rootN_lt (log : Nat) : rootN log < RR := mod_lt_RR _
theorem fv_one : fv ⟨1, 0, 0, 0⟩ = 1 := by decide +kernel
theorem q75_is (N : Nat) (n : UInt64) : q75 N n = some ((⟨n, 0, 0, 0⟩ : Fr), ()) := rfl
class Big (N : Nat) : Prop where
  h : 2000 ≤ N
instance : Big 2000 := ⟨Nat.le_refl _⟩
end Go.Proofs.Ytgimohchocjgcaa.V
