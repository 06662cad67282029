import Derived.Test.YtgimohchocjgcaaVFR
import Derived.KernelRfl
set_option linter.unusedVariables false
set_option linter.unusedSimpArgs false
namespace Go.Proofs.Ytgimohchocjgcaa.V
def frN (n : Nat) : Fr := ⟨UInt64.ofNat n, UInt64.ofNat (n / 18446744073709551616), UInt64.ofNat (n / 18446744073709551616 / 18446744073709551616), UInt64.ofNat (n / 18446744073709551616 / 18446744073709551616 / 18446744073709551616)⟩
theorem fv_frN {n : Nat} (h : n < 18446744073709551616 ^ 4) : fv (frN n) = n := by
  simp only [fv, frN, Fr.l, lv, UInt64.toNat_ofNat']
  omega
theorem RR_lt : RR < 18446744073709551616 ^ 4 := by decide
theorem fv_frN' {n : Nat} (h : n < RR) : fv (frN n) = n := fv_frN (Nat.lt_trans h RR_lt)
theorem fv_mod (n : Nat) : fv (frN (n % RR)) = n % RR := fv_frN' (mod_lt_RR n)
theorem is_frN {x : Fr} {n : Nat} (h : fv x = n) : x = frN n := fr_ext (by rw [fv_frN (by rw [← h]; exact fv_lt x), h])
theorem frN_fv (x : Fr) : frN (fv x) = x := (is_frN rfl).symm
theorem eqL_fr (x y : Fr) : eqL El.u64 [x.a0, x.a1, x.a2, x.a3] [y.a0, y.a1, y.a2, y.a3] = decide (x = y) := by
  obtain ⟨a, b, c, d⟩ := x
  obtain ⟨a', b', c', d'⟩ := y
  rw [Bool.eq_iff_iff, decide_eq_true_iff]
  simp [eqL, eqE, eq64, and_assoc]
theorem m80_4_eq (N : Nat) (a b z : List UInt64) (ha : a.length = 4) (hb : b.length = 4) : ∀ (k n j : Nat) (c : UInt64) (t : List UInt64), j + k = 4 → k < n → t.length = 4 → c.toNat ≤ 1 →
    lv (t.take j) + 18446744073709551616 ^ j * c.toNat = lv (a.take j) + lv (b.take j) →
    ∃ (c' : UInt64) (t' : List UInt64) (n' : Nat), t'.length = 4 ∧ c'.toNat ≤ 1 ∧ lv t' + 18446744073709551616 ^ 4 * c'.toNat = lv a + lv b ∧ m80_4 N n c (j : Int) a b z t = m80_4 N (n' + 1) c' 4 a b z t' := by
  intro k
  induction k with
  | zero =>
    intro n j c t hj hn ht hc hv
    obtain ⟨n, rfl⟩ : ∃ m, n = m + 1 := ⟨n - 1, by omega⟩
    obtain rfl : j = 4 := by omega
    rw [List.take_of_length_le (l := t) (by omega), List.take_of_length_le (l := a) (by omega), List.take_of_length_le (l := b) (by omega)] at hv
    exact ⟨c, t, n, ht, hc, hv, rfl⟩
  | succ k ih =>
    intro n j c t hj hn ht hc hv
    obtain ⟨n, rfl⟩ : ∃ m, n = m + 1 := ⟨n - 1, by omega⟩
    obtain ⟨s, d, h1, h2, h3⟩ := kAdd_eq (x := a.getD j 0) (y := b.getD j 0) hc
    rw [m80_4_succ]
    unfold c80_4
    rw [ltI_true (show (j : Int) < 4 by omega), cond_true, wr_add1 (by omega)]
    simp only [ltI_nat, leI_zero, Int.toNat_natCast]
    rw [ltN_true (by omega)]
    simp only [Bool.and_self, mst2, h1, bsm]
    refine ih n (j + 1) _ _ (by omega) (by omega) (by rw [length_setL]; exact ht) h2 ?_
    rw [lv_take_setL _ _ (by omega), lv_take_succ a, lv_take_succ b, Nat.pow_succ]
    exact alg4 _ _ _ _ _ _ _ _ _ _ hv h3
where
  alg4 (B A1 A2 A3 P x y c s d : Nat) (hv : A1 + P * c = A2 + A3) (h3 : s + B * d = x + y + c) : A1 + P * s + P * B * d = A2 + P * x + (A3 + P * y) := by
    have e : P * (s + B * d) = P * (x + y + c) := by rw [h3]
    grind
theorem q80_eq {N : Nat} (hN : 10 < N) {a b : Fr} (ha : fv a < RR) (hb : fv b < RR) : q80 N a b = some (frN ((fv a + fv b) % RR), ()) := by
  have hRR := RR_lt
  obtain ⟨c', t', n', h1, h2, h3, h4⟩ := m80_4_eq N a.l b.l [0, 0, 0, 0] rfl rfl 4 N 0 0 [0, 0, 0, 0] rfl (by omega) rfl (by decide) (by simp [lv])
  have hq : q80 N a b = m80_4 N N 0 ((0 : Nat) : Int) a.l b.l [0, 0, 0, 0] [0, 0, 0, 0] := rfl
  obtain ⟨x, hx1, hx2⟩ := of4 h1
  have hfx : fv x = lv t' := by rw [fv, hx2]
  have e : fv x + 18446744073709551616 ^ 4 * c'.toNat = fv a + fv b := by rw [hfx, h3]; rfl
  obtain ⟨r, hr1, hr2⟩ := q174_eq hN x c' h2 (by omega)
  rw [hq, h4, m80_4_succ]
  unfold c80_4
  rw [ltI_false (by omega), cond_false, hx1]
  simp only [bsm]
  rw [hr1]
  simp only [bsm]
  rw [e] at hr2
  have : r = frN ((fv a + fv b) % RR) := is_frN (by
    rw [hr2]
    split
    · rename_i h; rw [Nat.mod_eq_of_lt h]
    · rename_i h; rw [Nat.mod_eq_sub_mod (by omega), Nat.mod_eq_of_lt (by omega)])
  rw [← this]
theorem spl4 {l : List UInt64} (h : l.length ≤ 4) : ∃ x, Fr.of? (splice [(0 : UInt64), 0, 0, 0] (Int.toNat 0) (List.take (Int.toNat (((4 : Nat) : Int) - 0)) l)) = some x ∧ (splice [(0 : UInt64), 0, 0, 0] (Int.toNat 0) (List.take (Int.toNat (((4 : Nat) : Int) - 0)) l)).length = 4 ∧ fv x = lv l := by
  rw [show Int.toNat (((4 : Nat) : Int) - 0) = 4 from rfl, List.take_of_length_le h]
  match l, h with
  | [], _ => exact ⟨(⟨0, 0, 0, 0⟩ : Fr), rfl, rfl, by simp [fv, Fr.l, lv]⟩
  | [a], _ => exact ⟨(⟨a, 0, 0, 0⟩ : Fr), rfl, rfl, by simp [fv, Fr.l, lv]⟩
  | [a, b], _ => exact ⟨(⟨a, b, 0, 0⟩ : Fr), rfl, rfl, by simp [fv, Fr.l, lv]⟩
  | [a, b, c], _ => exact ⟨(⟨a, b, c, 0⟩ : Fr), rfl, rfl, by simp [fv, Fr.l, lv]⟩
  | [a, b, c, d], _ => exact ⟨(⟨a, b, c, d⟩ : Fr), rfl, rfl, by simp [fv, Fr.l, lv]⟩
theorem q175_eq {N : Nat} {l : List UInt64} (h : l.length ≤ 4) : q175 N l = some (frN (lv l), ()) := by
  obtain ⟨x, h1, h2, h3⟩ := spl4 h
  unfold q175
  rw [h2, h1, show Nat.beq 4 4 = true from rfl]
  simp only [mst2, bsm]
  rw [← h3, frN_fv]
theorem q94_eq {N : Nat} (hN : 10 < N) {a b : Fr} (hb : fv b < RR) : q94 N a b = some (frN (fv a * fv b % RR), ()) := by
  obtain ⟨r, h1, h2, h3⟩ := q184_eq hN (a := a.l) (b := b.l) rfl rfl hb
  obtain ⟨s, g1, g2, g3⟩ := q184_eq hN (a := r) (b := [14526898881837571181, 3129137299524312099, 419701826671360399, 524908885293268753]) h1 rfl (by decide +kernel)
  have hq : q94 N a b = Option.bind (q184 N a.l b.l mL) fun r1 => Option.bind (q184 N (List.take (List.length (Prod.fst r1)) (List.drop 0 (Prod.fst r1))) ([14526898881837571181, 3129137299524312099, 419701826671360399, 524908885293268753]) mL) fun r2 => Option.bind (q175 N (List.take (List.length (Prod.fst r2)) (List.drop 0 (Prod.fst r2)))) fun r3 => some ((Prod.fst r3, ())) := rfl
  rw [hq, h2]
  simp only [bsm, List.drop_zero, List.take_length]
  rw [g2]
  simp only [bsm, List.drop_zero, List.take_length]
  rw [q175_eq (by omega)]
  simp only [bsm]
  rw [g3, h3, Nat.mul_assoc, Nat.mod_mul_mod]
  have e : fv a * fv b * Binv * (lv [14526898881837571181, 3129137299524312099, 419701826671360399, 524908885293268753] * Binv) % RR = fv a * fv b % RR := by
    rw [← Nat.mul_mod_mod, sqN2_is, Nat.mul_mod_mod, Nat.mul_assoc, Nat.mul_comm Binv, ← Nat.mul_mod_mod, binv_is, Nat.mul_one]
  rw [← e]
  rfl
end Go.Proofs.Ytgimohchocjgcaa.V
