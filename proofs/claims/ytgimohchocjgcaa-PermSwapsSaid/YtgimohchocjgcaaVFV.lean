import Derived.Test.YtgimohchocjgcaaVFU
import Derived.Test.YtgimohchocjgcaaVUM
import Derived.Test.YtgimohchocjgcaaVLN
import Derived.KernelRfl
import Derived.Test.YtgimohchocjgcaaVLP
import Derived.Test.YtgimohchocjgcaaVLR
set_option linter.unusedVariables false
set_option linter.unusedSimpArgs false
namespace Go.Proofs.Ytgimohchocjgcaa.V
theorem fr_eta' (x : Fr) : Fr.mk x.a0 x.a1 x.a2 x.a3 = x := rfl
theorem zero_fr : Fr.mk 0 0 0 0 = Fr.zero := rfl
def eqF (x y : Fr) : Bool := decide (x = y)
theorem eqF_self (x : Fr) : eqF x x = true := decide_eq_true rfl
theorem eqL_frF (x y : Fr) : eqL El.u64 [x.a0, x.a1, x.a2, x.a3] [y.a0, y.a1, y.a2, y.a3] = eqF x y := eqL_fr x y
theorem eqL_frl (x : Fr) (n : UInt64) : eqL El.u64 [x.a0, x.a1, x.a2, x.a3] [n, (0 : UInt64), (0 : UInt64), (0 : UInt64)] = eqF x ⟨n, 0, 0, 0⟩ := eqL_fr x ⟨n, 0, 0, 0⟩
theorem shl63 (x : UInt64) : (shl64 x 63).toNat = 2 ^ 63 * (x.toNat % 2) := by
  unfold shl64
  rw [UInt64.toNat_ofNat']
  omega
theorem shr_or (x y : UInt64) : (shr64 x 1 ||| shl64 y 63).toNat = x.toNat / 2 + 9223372036854775808 * (y.toNat % 2) := by
  have hx := x.toNat_lt
  rw [UInt64.toNat_or, shl63, shr64_nat, Nat.or_comm, ← Nat.two_pow_add_eq_or_of_lt (by omega)]
  omega
theorem shr_or0 (x : UInt64) : (shr64 x 1 ||| 0).toNat = x.toNat / 2 := by
  have h : (shr64 x 1 ||| 0) = shr64 x 1 := by simp
  rw [h, shr64_nat]
theorem halve (a b c d : UInt64) : lv [shr64 a 1 ||| shl64 b 63, shr64 b 1 ||| shl64 c 63, shr64 c 1 ||| shl64 d 63, shr64 d 1 ||| 0] = lv [a, b, c, d] / 2 := by
  simp only [lv]
  rw [shr_or, shr_or, shr_or, shr_or0]
  omega
set_option maxRecDepth 100000 in
theorem m77_9_out (N : Nat) (A : Int → Int → List UInt64 → List UInt64 → Option (Fr × Int × Unit)) (n : Nat) (t s : Int) (z : List UInt64) (a b c d : UInt64) :
    m77_9 N A (n + 5) 0 3 t s z [a, b, c, d] = A t (wr (s + 1)) z [shr64 a 1 ||| shl64 b 63, shr64 b 1 ||| shl64 c 63, shr64 c 1 ||| shl64 d 63, shr64 d 1 ||| 0] := by kernel_rfl
theorem list4 {α : Type} {l : List α} (h : l.length = 4) : ∃ a b c d, l = [a, b, c, d] := by
  match l, h with
  | [a, b, c, d], _ => exact ⟨a, b, c, d, rfl⟩
def rootN (log : Nat) : Nat := 7 ^ ((RR - 1) / 2 ^ log) % RR
theorem rootN_eq (log : Nat) : rootN log = 7 ^ ((RR - 1) / 2 ^ log) % RR := rfl
theorem m77_6_eq {N : Nat} (hN : 500 < N) (log : Nat) (hlog : log ≤ 32) (z : List UInt64) : ∀ (k n j : Nat) (e : List UInt64), j + k = log → k < n → e.length = 4 → lv e = (RR - 1) / 2 ^ j → m77_6 N n (log : Int) (j : Int) z e = some (frN (rootN log), 0, ()) := by
  intro k
  induction k with
  | zero =>
    intro n j e hj hn he hv
    obtain ⟨n, rfl⟩ : ∃ m, n = m + 1 := ⟨n - 1, by omega⟩
    obtain rfl : j = log := by omega
    have e4 : List.take (Int.toNat (((4 : Nat) : Int) - 0)) e = e := List.take_of_length_le (by rw [he]; decide)
    have hq := q72_eq (N := N) (a := ⟨7, 0, 0, 0⟩) (e := e) (by rw [fv_small]; decide) (by omega) (by omega)
    rw [m77_6_succ]
    unfold c77_6
    rw [ltI_false (by omega), cond_false, e4, show q75 N 7 = some ((⟨7, 0, 0, 0⟩ : Fr), ()) from rfl]
    simp only [bsm, fr_eta']
    rw [hq]
    simp only [bsm, fr_eta']
    rw [fv_small, hv]
    rfl
  | succ k ih =>
    intro n j e hj hn he hv
    obtain ⟨n, rfl⟩ : ∃ m, n = m + 1 := ⟨n - 1, by omega⟩
    obtain ⟨M, rfl⟩ : ∃ M, N = M + 5 := ⟨N - 5, by omega⟩
    obtain ⟨a, b, c, d, rfl⟩ := list4 he
    rw [m77_6_succ]
    unfold c77_6
    rw [ltI_true (by omega), cond_true, m77_9_out, wr_add1 (by omega)]
    refine ih n (j + 1) _ (by omega) (by omega) rfl ?_
    rw [halve, hv, Nat.div_div_eq_div_mul, Nat.pow_succ]
theorem q77_eq {N : Nat} (hN : 500 < N) {log : Nat} (h : log ≤ 32) : q77 N (log : Int) = some (frN (rootN log), 0, ()) := by
  have hl : lv [18446744069414584320, 6034159408538082302, 3691218898639771653, 8353516859464449352] = (RR - 1) / 2 ^ 0 := by decide +kernel
  unfold q77
  rw [ltI_false (by omega), cond_false, ltI_false (by omega), cond_false]
  rw [show q169 N = some ((⟨18446744069414584321, 6034159408538082302, 3691218898639771653, 8353516859464449352⟩ : Fr), ()) from rfl]
  simp only [bsm]
  exact m77_6_eq hN log h [0, 0, 0, 0] log N 0 _ (by omega) (by omega) rfl hl
theorem m78_5_eq {N : Nat} (hN : 500 < N) (z : List UInt64) : ∀ (k n i : Nat) (x : Fr), i + k = 32 → k < n → fv x < RR → m78_5 N n (i : Int) z x.l = some (frN (fv x ^ 2 ^ k % RR), 0, ()) := by
  intro k
  induction k with
  | zero =>
    intro n i x hi hn hx
    obtain ⟨n, rfl⟩ : ∃ m, n = m + 1 := ⟨n - 1, by omega⟩
    rw [m78_5_succ]
    unfold c78_5
    rw [ltI_false (by omega), cond_false, show List.length x.l = 4 from rfl, show Nat.beq 4 4 = true from rfl, mst2, show Fr.of? x.l = some x from rfl]
    simp only [bsm]
    rw [Nat.pow_zero, Nat.pow_one, Nat.mod_eq_of_lt hx, frN_fv]
  | succ k ih =>
    intro n i x hi hn hx
    obtain ⟨n, rfl⟩ : ∃ m, n = m + 1 := ⟨n - 1, by omega⟩
    have h2 := ih n (i + 1) (frN (fv x * fv x % RR)) (by omega) (by omega) (by rw [fv_mod]; exact mod_lt_RR _)
    rw [m78_5_succ]
    unfold c78_5
    rw [ltI_true (by omega), cond_true, show Fr.of? x.l = some x from rfl]
    simp only [bsm]
    rw [q94_eq (by omega) hx]
    simp only [bsm]
    rw [wr_add1 (by omega)]
    refine h2.trans ?_
    rw [fv_mod]
    have e : (fv x * fv x % RR) ^ 2 ^ k % RR = fv x ^ 2 ^ (k + 1) % RR := by
      have := (Cg.mod (fv x * fv x)).pow (2 ^ k)
      rw [← Nat.pow_two, ← Nat.pow_mul, Nat.mul_comm, ← Nat.pow_succ] at this
      rw [← Nat.pow_two]
      exact this
    rw [e]
theorem root32 : fv ⟨4046931900703378731, 13129826145616953529, 15031722638446171060, 1631043718794977056⟩ = pm 7 256 ((RR - 1) / 2 ^ 32) := by decide +kernel
theorem fac32 : (RR - 1) / 2 ^ 32 * 2 ^ 32 = RR - 1 := by decide +kernel
theorem fac_log {log : Nat} (h : log ≤ 32) : (RR - 1) / 2 ^ log = (RR - 1) / 2 ^ 32 * 2 ^ (32 - log) := by
  refine Nat.div_eq_of_eq_mul_left (Nat.pow_pos (by decide)) ?_
  rw [Nat.mul_assoc, ← Nat.pow_add, show 32 - log + log = 32 by omega, fac32]
theorem root_pow {log : Nat} (h : log ≤ 32) : (fv ⟨4046931900703378731, 13129826145616953529, 15031722638446171060, 1631043718794977056⟩) ^ 2 ^ (32 - log) % RR = rootN log := by
  rw [root32, pm_eq' 7 _ (Nat.lt_of_le_of_lt (Nat.div_le_self _ _) (by decide))]
  unfold rootN
  rw [fac_log h, Nat.pow_mul]
  exact (Cg.mod _).pow _
theorem q78_eq {N : Nat} (hN : 500 < N) {log : Nat} (h : log ≤ 32) : q78 N (log : Int) = some (frN (rootN log), 0, ()) := by
  have e := m78_5_eq hN [0, 0, 0, 0] (32 - log) N log ⟨4046931900703378731, 13129826145616953529, 15031722638446171060, 1631043718794977056⟩ (by omega) (by omega) (by decide +kernel)
  rw [root_pow h] at e
  unfold q78
  rw [ltI_false (by omega), cond_false, ltI_false (by omega), cond_false]
  exact e
theorem rootN_lt (log : Nat) : rootN log < RR := mod_lt_RR _
theorem fv_one : fv ⟨1, 0, 0, 0⟩ = 1 := by decide +kernel
theorem q75_is (N : Nat) (n : UInt64) : q75 N n = some ((⟨n, 0, 0, 0⟩ : Fr), ()) := rfl
theorem q173_is (N : Nat) (n : UInt64) : q173 N n = some ((⟨n, 0, 0, 0⟩ : Fr), ()) := rfl
theorem cg_one {n : Nat} (h : Cg n 1) : n % RR = 1 := by
  unfold Cg at h
  rw [h]
  decide
theorem rootN_pm (log : Nat) : rootN log = pm 7 256 ((RR - 1) / 2 ^ log) := by
  rw [rootN_eq, pm_eq' 7 _ (Nat.lt_of_le_of_lt (Nat.div_le_self _ _) (by decide))]
theorem root_one : rootN 1 = RR - 1 := by
  rw [rootN_pm]
  decide +kernel
class Big (N : Nat) : Prop where
  h : 2000 ≤ N
instance : Big 2000 := ⟨Nat.le_refl _⟩
theorem q70_inv {N : Nat} [Big N] {a : Fr} (ha : fv a < RR) (h0 : fv a ≠ 0) : ∃ w, q70 N a = some (w, 0, ()) ∧ fv w < RR ∧ fv w * fv a % RR = 1 := by
  have hB : 2000 ≤ N := Big.h
  refine ⟨frN (fv a ^ (RR - 2) % RR), by rw [q70_eq (by omega) ha, if_neg h0], by rw [fv_mod]; exact mod_lt_RR _, ?_⟩
  rw [fv_mod, Nat.mod_mul_mod, Nat.mul_comm]
  exact cg_one (inv_mul (by omega) ha)
theorem q70_zero {N : Nat} [Big N] {a : Fr} (ha : fv a < RR) (h0 : fv a = 0) : q70 N a = some (a, 7, ()) := by
  have hB : 2000 ≤ N := Big.h
  rw [q70_eq (by omega) ha, if_pos h0]
end Go.Proofs.Ytgimohchocjgcaa.V
