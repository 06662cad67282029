import Derived.Test.YtgimohchocjgcaaVPA2
import Derived.KernelRfl
set_option linter.unusedVariables false
set_option linter.unusedSimpArgs false
namespace Go.Proofs.Ytgimohchocjgcaa.V
theorem sh1 {L : Nat} (h : L ≤ 6) : shlI 1 (UInt64.toNat (u64I (L : Int))) = ((2 ^ L : Nat) : Int) := by
  have : ∀ k : Fin 7, shlI 1 (UInt64.toNat (u64I (k.val : Int))) = ((2 ^ k.val : Nat) : Int) := by decide +kernel
  exact this ⟨L, by omega⟩
theorem sh3 {L : Nat} (h : L ≤ 6) : shlI 3 (UInt64.toNat (u64I (L : Int))) = ((3 * 2 ^ L : Nat) : Int) := by
  have : ∀ k : Fin 7, shlI 3 (UInt64.toNat (u64I (k.val : Int))) = ((3 * 2 ^ k.val : Nat) : Int) := by decide +kernel
  exact this ⟨L, by omega⟩
theorem sh1' {L : Nat} (h : L ≤ 6) : shlI 1 (UInt64.toNat (UInt64.ofNat (Int.toNat (L : Int)))) = ((2 ^ L : Nat) : Int) := by
  have : ∀ k : Fin 7, shlI 1 (UInt64.toNat (UInt64.ofNat (Int.toNat (k.val : Int)))) = ((2 ^ k.val : Nat) : Int) := by decide +kernel
  exact this ⟨L, by omega⟩
theorem two_pow_le {L : Nat} (h : L ≤ 6) : 2 ^ L ≤ 64 := Nat.pow_le_pow_right (by decide) h
theorem two_pow_pos (L : Nat) : 0 < 2 ^ L := Nat.pow_pos (by decide)
theorem lv_one (k : Nat) (h : k < 18446744073709551616) : lv [u64I (k : Int)] = k := by
  simp only [lv]
  rw [u64I_nat h]
  omega
theorem powF {N : Nat} [Big N] {a : Fr} (ha : Sc a) {k : Nat} (h : k < 18446744073709551616) : q72 N a [u64I (k : Int)] = some (frN (fv a ^ k % RR), ()) := by
  have hB : 2000 ≤ N := Big.h
  rw [q72_eq (e := [u64I (k : Int)]) ha (show 64 * 1 + 100 < N by omega) (show 1 < 1000 by omega), lv_one k h]
theorem sc7 : Sc ⟨7, 0, 0, 0⟩ := by unfold Sc; decide +kernel
theorem fv7 : fv ⟨7, 0, 0, 0⟩ = 7 := by decide +kernel
theorem sc_root (L : Nat) : Sc (frN (rootN L)) := by unfold Sc; rw [fv_frN' (rootN_lt L)]; exact rootN_lt L
def nm (L x : Nat) : Fr := fmul (frN (7 ^ (x / 2 ^ L) % RR)) (frN (rootN L ^ (x % 2 ^ L) % RR))
theorem nm_sc (L x : Nat) : Sc (nm L x) := sc_mul _ _
theorem q204_eq (N : Nat) {L : Nat} (h1 : 1 ≤ L) (h6 : L ≤ 6) : q204 N (L : Int) = some (true, ()) := by
  unfold q204
  rw [leI_true (by omega), cond_true, leI_true (by omega)]
theorem q136_eq {N : Nat} [Big N] {L x : Nat} (h1 : 1 ≤ L) (h6 : L ≤ 6) (hx : x < 3 * 2 ^ L) : q136 N (L : Int) (x : Int) = some (nm L x, 0, ()) := by
  have hB : 2000 ≤ N := Big.h
  have hp := two_pow_pos L
  have hle := two_pow_le h6
  have hd : x / 2 ^ L ≤ x := Nat.div_le_self _ _
  have hm : x % 2 ^ L < 2 ^ L := Nat.mod_lt _ hp
  have e0 : eqI ((2 ^ L : Nat) : Int) 0 = false := eqI_false (by omega)
  have e9 : wr ((x / 2 ^ L : Nat) : Int) = ((x / 2 ^ L : Nat) : Int) := by
    generalize x / 2 ^ L = q at hd
    exact wr_id (by omega) (by omega)
  unfold q136
  rw [q204_eq N h1 h6]
  simp only [bsm]
  rw [Bool.not_true, cond_false, ltI_false (by omega), cond_false, sh3 h6, leI_false (by omega), cond_false, q77_eq (by omega) (by omega), q75_is]
  simp only [bsm]
  rw [sh1 h6, e0, Bool.not_false, mst2, tdiv_nat, tmod_nat, e9, powF sc7 (by omega)]
  simp only [bsm]
  rw [mst2, powF (sc_root L) (by omega)]
  simp only [bsm]
  rw [mulF (by omega) (sc_mod _), fv7, fv_frN' (rootN_lt L)]
  rfl
def pre (l : List Fr) : Nat → Nat
  | 0 => 1
  | i + 1 => pre l i * fv (l.getD i Fr.zero)
end Go.Proofs.Ytgimohchocjgcaa.V
