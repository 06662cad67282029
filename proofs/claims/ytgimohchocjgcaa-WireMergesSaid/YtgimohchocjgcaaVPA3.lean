import Derived.Test.YtgimohchocjgcaaVFR
import Derived.KernelRfl
import Derived.Test.YtgimohchocjgcaaVUM
import Derived.Test.YtgimohchocjgcaaVLN
import Derived.Test.YtgimohchocjgcaaVWA0
set_option linter.unusedVariables false
set_option linter.unusedSimpArgs false
namespace Go.Proofs.Ytgimohchocjgcaa.V
section
def frN (n : Nat) : Fr := ⟨UInt64.ofNat n, UInt64.ofNat (n / 18446744073709551616), UInt64.ofNat (n / 18446744073709551616 / 18446744073709551616), UInt64.ofNat (n / 18446744073709551616 / 18446744073709551616 / 18446744073709551616)⟩
theorem ztd {n : Nat} (h : n < 18446744073709551616 ^ 4) : fv (frN n) = n := by
  simp only [fv, frN, Fr.l, lv, UInt64.toNat_ofNat']
  omega
theorem zu5 : RR < 18446744073709551616 ^ 4 := by decide
theorem zk7 {n : Nat} (h : n < RR) : fv (frN n) = n := ztd (Nat.lt_trans h zu5)
theorem zdx (n : Nat) : fv (frN (n % RR)) = n % RR := zk7 (zbg n)
theorem zme {x : Fr} {n : Nat} (h : fv x = n) : x = frN n := ztc (by rw [ztd (by rw [← h]; exact zz6 x), h])
theorem zxP (x : Fr) : frN (fv x) = x := (zme rfl).symm
theorem zte (x y : Fr) : eqL El.u64 [x.a0, x.a1, x.a2, x.a3] [y.a0, y.a1, y.a2, y.a3] = decide (x = y) := by
  obtain ⟨a, b, c, d⟩ := x
  obtain ⟨a', b', c', d'⟩ := y
  rw [Bool.eq_iff_iff, decide_eq_true_iff]
  simp [eqL, eqE, eq64, and_assoc]
theorem zmf (N : Nat) (a b z : List UInt64) (ha : a.length = 4) (hb : b.length = 4) : ∀ (k n j : Nat) (c : UInt64) (t : List UInt64), j + k = 4 -> k < n -> t.length = 4 -> c.toNat <= 1 ->
    lv (t.take j) + 18446744073709551616 ^ j * c.toNat = lv (a.take j) + lv (b.take j) ->
    ∃ (c' : UInt64) (t' : List UInt64) (n' : Nat), t'.length = 4 /\ c'.toNat <= 1 /\ lv t' + 18446744073709551616 ^ 4 * c'.toNat = lv a + lv b /\ zsf N n c (j : Int) a b z t = zsf N (n' + 1) c' 4 a b z t' := by
  intro k
  induction k with
  | zero =>
    intro n j c t hj hn ht hc hv
    obtain ⟨n, rfl⟩ : ∃ m, n = m + 1 := ⟨n - 1, by omega⟩
    obtain rfl : j = 4 := by omega
    rw [List.take_of_length_le (l := t) (by omega), List.take_of_length_le (l := a) (by omega), List.take_of_length_le (l := b) (by omega)] at hv
    exact ⟨c, t, n, ht, hc, hv, rfl⟩
  | succ k ih =>
    intro n j c t hj hn ht hc hv
    obtain ⟨n, rfl⟩ : ∃ m, n = m + 1 := ⟨n - 1, by omega⟩
    obtain ⟨s, d, h1, h2, h3⟩ := zc7 (x := a.getD j 0) (y := b.getD j 0) hc
    rw [zm9]
    unfold zuY
    rw [zae (show (j : Int) < 4 by omega), cond_true, zay (by omega)]
    simp only [zbk, zav, Int.toNat_natCast]
    rw [zau (by omega)]
    simp only [Bool.and_self, mst2, h1, bsm]
    refine ih n (j + 1) _ _ (by omega) (by omega) (by rw [zat]; exact ht) h2 ?_
    rw [zaJ _ _ (by omega), zaf a, zaf b, Nat.pow_succ]
    exact alg4 _ _ _ _ _ _ _ _ _ _ hv h3
where
  alg4 (B A1 A2 A3 P x y c s d : Nat) (hv : A1 + P * c = A2 + A3) (h3 : s + B * d = x + y + c) : A1 + P * s + P * B * d = A2 + P * x + (A3 + P * y) := by
    have e : P * (s + B * d) = P * (x + y + c) := by rw [h3]
    grind
theorem spl4 {l : List UInt64} (h : l.length <= 4) : ∃ x, Fr.of? (zao [(0 : UInt64), 0, 0, 0] (Int.toNat 0) (List.take (Int.toNat (((4 : Nat) : Int) - 0)) l)) = some x /\ (zao [(0 : UInt64), 0, 0, 0] (Int.toNat 0) (List.take (Int.toNat (((4 : Nat) : Int) - 0)) l)).length = 4 /\ fv x = lv l := by
  rw [show Int.toNat (((4 : Nat) : Int) - 0) = 4 from rfl, List.take_of_length_le h]
  match l, h with
  | [], _ => exact ⟨(⟨0, 0, 0, 0⟩ : Fr), rfl, rfl, by simp [fv, Fr.l, lv]⟩
  | [a], _ => exact ⟨(⟨a, 0, 0, 0⟩ : Fr), rfl, rfl, by simp [fv, Fr.l, lv]⟩
  | [a, b], _ => exact ⟨(⟨a, b, 0, 0⟩ : Fr), rfl, rfl, by simp [fv, Fr.l, lv]⟩
  | [a, b, c], _ => exact ⟨(⟨a, b, c, 0⟩ : Fr), rfl, rfl, by simp [fv, Fr.l, lv]⟩
  | [a, b, c, d], _ => exact ⟨(⟨a, b, c, d⟩ : Fr), rfl, rfl, by simp [fv, Fr.l, lv]⟩
theorem zk8 {N : Nat} {l : List UInt64} (h : l.length <= 4) : q175 N l = some (frN (lv l), ()) := by
  obtain ⟨x, h1, h2, h3⟩ := spl4 h
  unfold q175
  rw [h2, h1, show Nat.beq 4 4 = true from rfl]
  simp only [mst2, bsm]
  rw [← h3, zxP]
theorem zqf (N : Nat) (a b : List UInt64) (ha : a.length = 4) (hb : b.length = 4) : ∀ (k n j : Nat) (c : UInt64) (t : List UInt64), j + k = 4 -> k < n -> t.length = 4 -> c.toNat <= 1 ->
    lv (t.take j) + 18446744073709551616 ^ j * c.toNat = lv (a.take j) + lv (b.take j) ->
    ∃ (c' : UInt64) (t' : List UInt64) (n' : Nat), t'.length = 4 /\ c'.toNat <= 1 /\ lv t' + 18446744073709551616 ^ 4 * c'.toNat = lv a + lv b /\ ze5 N n a b mL c (j : Int) t = ze5 N (n' + 1) a b mL c' 4 t' := by
  intro k
  induction k with
  | zero =>
    intro n j c t hj hn ht hc hv
    obtain ⟨n, rfl⟩ : ∃ m, n = m + 1 := ⟨n - 1, by omega⟩
    obtain rfl : j = 4 := by omega
    rw [List.take_of_length_le (l := t) (by omega), List.take_of_length_le (l := a) (by omega), List.take_of_length_le (l := b) (by omega)] at hv
    exact ⟨c, t, n, ht, hc, hv, rfl⟩
  | succ k ih =>
    intro n j c t hj hn ht hc hv
    obtain ⟨n, rfl⟩ : ∃ m, n = m + 1 := ⟨n - 1, by omega⟩
    obtain ⟨s, d, h1, h2, h3⟩ := zc7 (x := a.getD j 0) (y := b.getD j 0) hc
    rw [zgk]
    unfold zhs
    rw [show List.length mL = 4 from rfl, zae (show (j : Int) < ((4 : Nat) : Int) by omega), cond_true, zay (by omega)]
    simp only [zbk, zav, Int.toNat_natCast]
    rw [zau (show j < a.length by omega), zau (show j < b.length by omega), zau (show j < t.length by omega)]
    simp only [Bool.and_self, mst2, h1, bsm]
    refine ih n (j + 1) _ _ (by omega) (by omega) (by rw [zat]; exact ht) h2 ?_
    rw [zaJ _ _ (by omega), zaf a, zaf b, Nat.pow_succ]
    exact zmf.alg4 _ _ _ _ _ _ _ _ _ _ hv h3
theorem zu6 {t t' : List UInt64} {c' : UInt64} (ht : t.length = 4) (ht' : t'.length = 4) (h : lv (t'.take mL.length) + lv mL = lv (t.take mL.length) + 18446744073709551616 ^ mL.length * c'.toNat) : lv t' + RR = lv t + 18446744073709551616 ^ 4 * c'.toNat := by
  rw [show mL.length = 4 from rfl, zgN, List.take_of_length_le (by omega), List.take_of_length_le (by omega)] at h
  exact h
theorem zu7 {N : Nat} (hN : 10 < N) {a b : List UInt64} (ha : a.length = 4) (hb : b.length = 4) (hal : lv a < RR) (hbl : lv b < RR) : ∃ r, q176 N a b mL = some (r, ()) /\ r.length = 4 /\ lv r = (lv a + lv b) % RR := by
  have hRR := zu5
  obtain ⟨c', t', n', h1, h2, h3, h4⟩ := zqf N a b ha hb 4 N 0 0 [0, 0, 0, 0] rfl (by omega) rfl (by decide) (by simp [lv])
  have hq : q176 N a b mL = ze5 N N a b mL 0 ((0 : Nat) : Int) [0, 0, 0, 0] := by
    unfold q176
    rw [show List.length mL = 4 from rfl, Int.toNat_natCast, zax rfl, zaE (by omega)]
    simp only [Bool.and_self, mst2]
    rfl
  obtain ⟨c2, t2, g1, g2, g3, g4⟩ := zqc (N := N) (t := t') (m := mL) (by rw [h1]; decide) (by omega) (by show 4 < N; omega)
  have g5 := zu6 h1 (by omega) g3
  have ht2 := zgM t2
  rw [g1, h1] at ht2
  have hmod : ∀ x, x < 2 * RR -> RR <= x -> x % RR = x - RR := fun x h1 h2 => by rw [Nat.mod_eq_sub_mod h2, Nat.mod_eq_of_lt (by omega)]
  rw [hq, h4, zgk]
  unfold zhs
  rw [show List.length mL = 4 from rfl, zac (by omega), cond_false, h1, zau (show 0 < 4 by omega)]
  simp only [mst2, g4, bsm, g1, h1]
  rw [show Nat.beq 4 4 = true from rfl]
  simp only [mst2]
  rw [zk2 (N := N) (a := t') (m := mL) (by decide) (by rw [h1]; rfl) (by show 4 < N; omega), zgN]
  simp only [bsm]
  by_cases hc : c' = 1
  . rw [hc] at h3 ⊢
    rw [show UInt64.toNat 1 = 1 from rfl] at h3
    simp only [beq_self_eq_true, cond_true]
    refine ⟨t2, rfl, by omega, ?_⟩
    rw [hmod _ (by omega) (by omega)]
    omega
  . have hc0 : c'.toNat = 0 := by
      have : c'.toNat ≠ 1 := fun h => hc (UInt64.toNat_inj.1 h)
      omega
    rw [hc0] at h3
    rw [beq_eq_false_iff_ne.2 hc, cond_false]
    by_cases h : lv t' < RR
    . rw [decide_eq_true h, Bool.not_true, cond_false]
      exact ⟨t', rfl, h1, by rw [← h3, Nat.mul_zero, Nat.add_zero, Nat.mod_eq_of_lt h]⟩
    . rw [decide_eq_false h, Bool.not_false, cond_true]
      refine ⟨t2, rfl, by omega, ?_⟩
      rw [hmod _ (by omega) (by omega)]
      omega
theorem zxQ {N : Nat} (hN : 10 < N) {a b : Fr} (ha : fv a < RR) (hb : fv b < RR) : q81 N a b = some (frN ((fv a + fv b) % RR), ()) := by
  obtain ⟨r, h1, h2, h3⟩ := zu7 hN (a := a.l) (b := b.l) rfl rfl ha hb
  have hq : q81 N a b = Option.bind (q176 N a.l b.l mL) fun r1 => Option.bind (q175 N r1.1) fun r2 => some ((Prod.fst r2, ())) := rfl
  rw [hq, h1]
  simp only [bsm]
  rw [zk8 (by omega)]
  simp only [bsm]
  rw [h3]
  rfl
theorem zqg {N : Nat} (hN : 10 < N) {a b : Fr} (hb : fv b < RR) : q94 N a b = some (frN (fv a * fv b % RR), ()) := by
  obtain ⟨r, h1, h2, h3⟩ := zqe hN (a := a.l) (b := b.l) rfl rfl hb
  obtain ⟨s, g1, g2, g3⟩ := zqe hN (a := r) (b := [14526898881837571181, 3129137299524312099, 419701826671360399, 524908885293268753]) h1 rfl (by decide +kernel)
  have hq : q94 N a b = Option.bind (q184 N a.l b.l mL) fun r1 => Option.bind (q184 N (List.take r1.1.length (List.drop 0 r1.1)) ([14526898881837571181, 3129137299524312099, 419701826671360399, 524908885293268753]) mL) fun r2 => Option.bind (q175 N (List.take r2.1.length (List.drop 0 r2.1))) fun r3 => some ((Prod.fst r3, ())) := rfl
  rw [hq, h2]
  simp only [bsm, List.drop_zero, List.take_length]
  rw [g2]
  simp only [bsm, List.drop_zero, List.take_length]
  rw [zk8 (by omega)]
  simp only [bsm]
  rw [g3, h3, Nat.mul_assoc, Nat.mod_mul_mod]
  have e : fv a * fv b * Binv * (lv [14526898881837571181, 3129137299524312099, 419701826671360399, 524908885293268753] * Binv) % RR = fv a * fv b % RR := by
    rw [← Nat.mul_mod_mod, zqb, Nat.mul_mod_mod, Nat.mul_assoc, Nat.mul_comm Binv, ← Nat.mul_mod_mod, zit, Nat.mul_one]
  rw [← e]
  rfl
end
section
theorem alg5 (B A1 A2 A3 P x y c s d : Nat) (hv : A1 + A3 = A2 + P * c) (h3 : s + y + c = x + B * d) : A1 + P * s + (A3 + P * y) = A2 + P * x + P * B * d := by
  have e : P * (s + y + c) = P * (x + B * d) := by rw [h3]
  grind
theorem zu8 {a b : Nat} (ha : a < RR) (hb : b < RR) : (a + (RR - b)) % RR = if b <= a then a - b else a + RR - b := by
  split
  . rw [show a + (RR - b) = (a - b) + RR by omega, Nat.add_mod_right, Nat.mod_eq_of_lt (by omega)]
  . rw [Nat.mod_eq_of_lt (by omega)]; omega
theorem zqh (N : Nat) (a b : List UInt64) (ha : a.length = 4) (hb : b.length = 4) : ∀ (k n j : Nat) (c : UInt64) (t : List UInt64), j + k = 4 -> k < n -> t.length = 4 -> c.toNat <= 1 ->
    lv (t.take j) + lv (b.take j) = lv (a.take j) + 18446744073709551616 ^ j * c.toNat ->
    ∃ (c' : UInt64) (t' : List UInt64) (n' : Nat), t'.length = 4 /\ c'.toNat <= 1 /\ lv t' + lv b = lv a + 18446744073709551616 ^ 4 * c'.toNat /\ ze7 N n a b mL c (j : Int) t = ze7 N (n' + 1) a b mL c' 4 t' := by
  intro k
  induction k with
  | zero =>
    intro n j c t hj hn ht hc hv
    obtain ⟨n, rfl⟩ : ∃ m, n = m + 1 := ⟨n - 1, by omega⟩
    obtain rfl : j = 4 := by omega
    rw [List.take_of_length_le (l := t) (by omega), List.take_of_length_le (l := a) (by omega), List.take_of_length_le (l := b) (by omega)] at hv
    exact ⟨c, t, n, ht, hc, hv, rfl⟩
  | succ k ih =>
    intro n j c t hj hn ht hc hv
    obtain ⟨n, rfl⟩ : ∃ m, n = m + 1 := ⟨n - 1, by omega⟩
    obtain ⟨s, d, h1, h2, h3⟩ := zkZ (x := a.getD j 0) (y := b.getD j 0) hc
    rw [zgl]
    unfold zht
    rw [show List.length mL = 4 from rfl, zae (show (j : Int) < ((4 : Nat) : Int) by omega), cond_true, zay (by omega)]
    simp only [zbk, zav, Int.toNat_natCast]
    rw [zau (show j < a.length by omega), zau (show j < b.length by omega), zau (show j < t.length by omega)]
    simp only [Bool.and_self, mst2, h1, bsm]
    refine ih n (j + 1) _ _ (by omega) (by omega) (by rw [zat]; exact ht) h2 ?_
    rw [zaJ _ _ (by omega), zaf a, zaf b, Nat.pow_succ]
    exact alg5 _ _ _ _ _ _ _ _ _ _ hv h3
theorem zng (N : Nat) (t0 : List UInt64) : ∀ (k n j : Nat) (c : UInt64) (t : List UInt64), j + k = 4 -> k < n -> t.length = 4 -> c.toNat <= 1 -> (∀ p, j <= p -> t.getD p 0 = t0.getD p 0) ->
    lv (t.take j) + 18446744073709551616 ^ j * c.toNat = lv (t0.take j) + lv (mL.take j) ->
    ∃ (c' : UInt64) (r : List UInt64), c'.toNat <= 1 /\ r.length = 4 /\ lv r + 18446744073709551616 ^ 4 * c'.toNat = lv (t0.take 4) + RR /\ zeG N n mL c (j : Int) t = some (r, ()) := by
  intro k
  induction k with
  | zero =>
    intro n j c t hj hn ht hc hp hv
    obtain ⟨n, rfl⟩ : ∃ m, n = m + 1 := ⟨n - 1, by omega⟩
    obtain rfl : j = 4 := by omega
    rw [List.take_of_length_le (l := t) (by omega), show List.take 4 mL = mL from rfl, zgN] at hv
    refine ⟨c, t, hc, ht, hv, ?_⟩
    rw [ze6]
    unfold zeF
    rw [show List.length mL = 4 from rfl, zac (by omega), cond_false]
  | succ k ih =>
    intro n j c t hj hn ht hc hp hv
    obtain ⟨n, rfl⟩ : ∃ m, n = m + 1 := ⟨n - 1, by omega⟩
    obtain ⟨s, d, h1, h2, h3⟩ := zc7 (x := t.getD j 0) (y := mL.getD j 0) hc
    rw [ze6]
    unfold zeF
    rw [show List.length mL = 4 from rfl, zae (show (j : Int) < ((4 : Nat) : Int) by omega), cond_true, zay (by omega)]
    rw [ht, zae (show (j : Int) < ((4 : Nat) : Int) by omega)]
    simp only [zav, Int.toNat_natCast, Bool.and_self, mst2, h1, bsm]
    refine ih n (j + 1) _ _ (by omega) (by omega) (by rw [zat]; exact ht) h2 ?_ ?_
    . intro p h
      rw [zaX, if_neg (by omega)]
      exact hp p (by omega)
    . rw [zaJ _ _ (by omega), zaf t0, zaf mL, Nat.pow_succ, ← hp j (Nat.le_refl _)]
      exact zmf.alg4 _ _ _ _ _ _ _ _ _ _ hv h3
theorem zu9 {N : Nat} (hN : 10 < N) {a b : List UInt64} (ha : a.length = 4) (hb : b.length = 4) (hal : lv a < RR) (hbl : lv b < RR) : ∃ r, q177 N a b mL = some (r, ()) /\ r.length = 4 /\ lv r = (lv a + (RR - lv b)) % RR := by
  have hRR := zu5
  obtain ⟨c', t', n', h1, h2, h3, h4⟩ := zqh N a b ha hb 4 N 0 0 [0, 0, 0, 0] rfl (by omega) rfl (by decide) (by simp [lv])
  have hq : q177 N a b mL = ze7 N N a b mL 0 ((0 : Nat) : Int) [0, 0, 0, 0] := by
    unfold q177
    rw [show List.length mL = 4 from rfl, Int.toNat_natCast, zax rfl, zaE (by omega)]
    simp only [Bool.and_self, mst2]
    rfl
  have htl := zgM t'
  rw [h1] at htl
  rw [hq, h4, zgl]
  unfold zht
  rw [show List.length mL = 4 from rfl, zac (by omega), cond_false, zu8 hal hbl]
  by_cases hc : c' = 1
  . rw [hc] at h3 ⊢
    rw [show UInt64.toNat 1 = 1 from rfl] at h3
    rw [beq_self_eq_true, cond_true]
    obtain ⟨c2, r, g1, g4, g2, g3⟩ := zng N t' 4 N 0 0 t' rfl (by omega) h1 (by decide) (fun _ _ => rfl) (by simp [lv])
    rw [List.take_of_length_le (by omega)] at g2
    have hrl := zgM r
    rw [g4] at hrl
    rw [if_neg (by omega)]
    exact ⟨r, g3, g4, by omega⟩
  . have hc0 : c'.toNat = 0 := by
      have : c'.toNat ≠ 1 := fun h => hc (UInt64.toNat_inj.1 h)
      omega
    rw [hc0] at h3
    rw [beq_eq_false_iff_ne.2 hc, cond_false, if_pos (by omega)]
    exact ⟨t', rfl, h1, by omega⟩
theorem zxR {N : Nat} (hN : 10 < N) {a b : Fr} (ha : fv a < RR) (hb : fv b < RR) : q83 N a b = some (frN ((fv a + (RR - fv b)) % RR), ()) := by
  obtain ⟨r, h1, h2, h3⟩ := zu9 hN (a := a.l) (b := b.l) rfl rfl ha hb
  have hq : q83 N a b = Option.bind (q177 N a.l b.l mL) fun r1 => Option.bind (q175 N r1.1) fun r2 => some ((Prod.fst r2, ())) := rfl
  rw [hq, h1]
  simp only [bsm]
  rw [zk8 (by omega)]
  simp only [bsm]
  rw [h3]
  rfl
theorem zqi : fv ⟨0, 0, 0, 0⟩ = 0 := by decide
theorem zcO (n : UInt64) : fv ⟨n, 0, 0, 0⟩ = n.toNat := by simp [fv, Fr.l, lv]
theorem zxS : 0 < RR := by decide
theorem ztf {N : Nat} (hN : 10 < N) {a : Fr} (ha : fv a < RR) : q85 N a = some (frN ((RR - fv a) % RR), ()) := by
  unfold q85
  rw [zxR hN (by rw [zqi]; exact zxS) ha, zqi, Nat.zero_add]
  rfl
theorem zxT {N : Nat} (hN : 10 < N) (a : Fr) : q69 N a = some (decide (fv a < RR), ()) := by
  have hq : q69 N a = Option.bind (q168 N a.l mL) fun r1 => some ((Prod.fst r1, ())) := rfl
  rw [hq, zk2 (N := N) (a := a.l) (m := mL) (by decide) rfl (by show 4 < N; omega), zgN]
  rfl
theorem zva (x y : Nat) : ltI (cmpN x y) 0 = decide (x < y) := by
  unfold cmpN
  split
  . rename_i h; rw [decide_eq_true h]; rfl
  . rename_i h
    rw [decide_eq_false h]
    split <;> rfl
theorem zxU {N : Nat} (hN : 10 < N) (a : Fr) : q79 N a = some (decide (fv a < RR), ()) := by
  have hq : q79 N a = Option.bind (q61 N a.l mL) fun r1 => some (((ltI r1.1 (0 : Int)), ())) := rfl
  rw [hq, zxM (N := N) (a := a.l) (b := mL) (show (4 : Nat) < 1000000 by omega) (show (4 : Nat) < 1000000 by omega) (show max 4 4 < N by omega), zgN]
  simp only [bsm]
  rw [zva]
  rfl
theorem zvb {N : Nat} (hN : 10 < N) {a b : Fr} (ha : fv a < RR) : q76 N a b = some (frN (fv a * fv b % RR), ()) := by
  obtain ⟨r, h1, h2⟩ := zxO hN (b := b) ha
  rw [h1, zme h2]
theorem zxV (e : List UInt64) (i : Nat) : ((zaL (e.getD (i / 64) 0) (i % 64) &&& 1) == 1) = decide (lv e / 2 ^ i % 2 = 1) := by
  have h : (zaL (e.getD (i / 64) 0) (i % 64) &&& 1).toNat = lv e / 2 ^ i % 2 := by
    rw [zp6, zc8, zgn, zgn, zp5]
  rw [Bool.eq_iff_iff, beq_iff_eq, decide_eq_true_iff, ← h, ← UInt64.toNat_inj]
  rfl
theorem zqj (a E i M : Nat) : (a ^ (E / 2 ^ (i + 1)) * a ^ (E / 2 ^ (i + 1)) * (if E / 2 ^ i % 2 = 1 then a else 1)) = a ^ (E / 2 ^ i) := by
  have e : E / 2 ^ i = 2 * (E / 2 ^ (i + 1)) + E / 2 ^ i % 2 := by
    rw [Nat.pow_succ, ← Nat.div_div_eq_div_mul]; omega
  have h2 : E / 2 ^ i % 2 = 0 \/ E / 2 ^ i % 2 = 1 := by omega
  rw [← Nat.pow_add]
  rcases h2 with h | h
  . rw [h, if_neg (by omega), Nat.mul_one]; congr 1; omega
  . rw [h, if_pos rfl, ← Nat.pow_succ]; congr 1; omega
def Cg (a b : Nat) : Prop := a % RR = b % RR
theorem Cg.rfl' {a : Nat} : Cg a a := rfl
theorem Cg.symm {a b : Nat} (h : Cg a b) : Cg b a := Eq.symm h
theorem Cg.trans {a b c : Nat} (h : Cg a b) (g : Cg b c) : Cg a c := Eq.trans h g
theorem Cg.mul {a b c d : Nat} (h1 : Cg a b) (h2 : Cg c d) : Cg (a * c) (b * d) := by
  unfold Cg at *
  rw [Nat.mul_mod, h1, h2, ← Nat.mul_mod]
theorem Cg.add {a b c d : Nat} (h1 : Cg a b) (h2 : Cg c d) : Cg (a + c) (b + d) := by
  unfold Cg at *
  rw [Nat.add_mod, h1, h2, ← Nat.add_mod]
theorem Cg.pow {a b : Nat} (h1 : Cg a b) (n : Nat) : Cg (a ^ n) (b ^ n) := by
  induction n with
  | zero => exact Cg.rfl'
  | succ n ih => rw [Nat.pow_succ, Nat.pow_succ]; exact ih.mul h1
theorem Cg.mod (a : Nat) : Cg (a % RR) a := Nat.mod_mod _ _
theorem Cg.of_eq {a b : Nat} (h : a = b) : Cg a b := by rw [h]; exact Cg.rfl'
theorem Cg.lt {a b : Nat} (h : Cg a b) (ha : a < RR) : a = b % RR := by
  unfold Cg at h
  rw [← h, Nat.mod_eq_of_lt ha]
theorem cgB (x : Nat) : Cg (x * (18446744073709551616 ^ 4 * Binv)) x := by
  have : Cg (18446744073709551616 ^ 4 * Binv) 1 := by unfold Cg; rw [zit]; decide
  have h := (Cg.rfl' (a := x)).mul this
  rwa [Nat.mul_one] at h
theorem zsk (p q B C : Nat) : p * B * (q * B) * C = p * q * B * (B * C) := by grind
theorem zmg {x y p q : Nat} (hx : Cg x (p * 18446744073709551616 ^ 4)) (hy : Cg y (q * 18446744073709551616 ^ 4)) : Cg (x * y * Binv % RR) (p * q * 18446744073709551616 ^ 4) :=
  (Cg.mod _).trans (((hx.mul hy).mul Cg.rfl').trans ((Cg.of_eq (zsk p q _ Binv)).trans (cgB _)))
theorem zxW {N : Nat} (hN : 10 < N) (a : Nat) (e z : List UInt64) (he : e.length < 1000) (u : Fr) (hu : fv u < RR) (hu2 : Cg (fv u) (a * 18446744073709551616 ^ 4)) : ∀ (i n : Nat) (x : Fr), i < n -> i <= 64 * e.length -> fv x < RR -> Cg (fv x) (a ^ (lv e / 2 ^ i) * 18446744073709551616 ^ 4) ->
    zdk N n e (i : Int) z u.l x.l = some (frN (a ^ lv e % RR), ()) := by
  intro i
  induction i with
  | zero =>
    intro n x hn hi hx hx2
    obtain ⟨n, rfl⟩ : ∃ m, n = m + 1 := ⟨n - 1, by omega⟩
    obtain ⟨r, h1, h2⟩ := zu2 hN hx
    have e1 : wr (((0 : Nat) : Int) - 1) = -1 := by decide
    rw [zeg]
    unfold zdj
    rw [e1, zae (by omega), cond_true, show Fr.of? x.l = some x from rfl]
    simp only [bsm]
    rw [h1]
    simp only [bsm]
    have : r = frN (a ^ lv e % RR) := zme (by
      rw [h2]
      rw [Nat.pow_zero, Nat.div_one] at hx2
      exact ((hx2.mul Cg.rfl').trans ((Cg.of_eq (Nat.mul_assoc _ _ _)).trans (cgB _))))
    rw [← this]
  | succ i ih =>
    intro n x hn hi hx hx2
    obtain ⟨n, rfl⟩ : ∃ m, n = m + 1 := ⟨n - 1, by omega⟩
    obtain ⟨y, h1, h2⟩ := zgo hN (a := x) (b := x) hx
    have hy : fv y < RR := by rw [h2]; exact zbg _
    have hy2 : Cg (fv y) (a ^ (lv e / 2 ^ (i + 1)) * a ^ (lv e / 2 ^ (i + 1)) * 18446744073709551616 ^ 4) := by rw [h2]; exact zmg hx2 hx2
    obtain ⟨w, g1, g2⟩ := zgo hN (a := y) (b := u) hy
    have hw : fv w < RR := by rw [g2]; exact zbg _
    have hw2 : Cg (fv w) (a ^ (lv e / 2 ^ (i + 1)) * a ^ (lv e / 2 ^ (i + 1)) * a * 18446744073709551616 ^ 4) := by rw [g2]; exact zmg hy2 hu2
    have hpb := zqj a (lv e) i 0
    have t1 : wr (Int.tdiv (i : Int) 64) = ((i / 64 : Nat) : Int) := by rw [show Int.tdiv (i : Int) 64 = ((i / 64 : Nat) : Int) from rfl, zdo (by omega) (by omega)]
    have t2 : (u64I (Int.tmod (i : Int) 64)).toNat = i % 64 := by rw [show Int.tmod (i : Int) 64 = ((i % 64 : Nat) : Int) from rfl, zis (by omega)]
    rw [zeg]
    unfold zdj
    rw [ziq (by omega), zac (by omega), cond_false, show Fr.of? x.l = some x from rfl, show Fr.of? u.l = some u from rfl]
    simp only [bsm]
    rw [h1]
    simp only [bsm]
    rw [t1, t2, zav, zae (by omega), Int.toNat_natCast, zxV]
    simp only [Bool.and_self, mst2]
    by_cases hb : lv e / 2 ^ i % 2 = 1
    . rw [decide_eq_true hb, cond_true, g1]
      simp only [bsm]
      rw [if_pos hb] at hpb
      rw [hpb] at hw2
      exact ih n w (by omega) (by omega) hw hw2
    . rw [decide_eq_false hb, cond_false]
      rw [if_neg hb, Nat.mul_one] at hpb
      rw [hpb] at hy2
      exact ih n y (by omega) (by omega) hy hy2
theorem ztg {N : Nat} {a : Fr} {e : List UInt64} (ha : fv a < RR) (he : 64 * e.length + 100 < N) (he2 : e.length < 1000) : q72 N a e = some (frN (fv a ^ lv e % RR), ()) := by
  obtain ⟨u, h1, h2⟩ := zk1 (N := N) (by omega) ha
  obtain ⟨x, g1, g2⟩ := zk1 (N := N) (a := ⟨1, 0, 0, 0⟩) (by omega) (by rw [zcO]; decide)
  unfold q72
  rw [h1]
  simp only [bsm]
  rw [g1]
  simp only [bsm]
  rw [show wr (64 * (e.length : Int)) = ((64 * e.length : Nat) : Int) by rw [zdo (by omega) (by omega)]; omega]
  have hlt : lv e / 2 ^ (64 * e.length) = 0 := by
    apply Nat.div_eq_of_lt
    have := zgM e
    rw [Nat.pow_mul]
    exact this
  exact zxW (by omega) (fv a) e [0, 0, 0, 0] he2 u (by rw [h2]; exact zbg _) (by rw [h2]; exact Cg.mod _) (64 * e.length) N x (by omega) (Nat.le_refl _) (by rw [g2]; exact zbg _) (by rw [g2, hlt, Nat.pow_zero, zcO]; exact Cg.mod _)
theorem zxX {N : Nat} (hN : 10 < N) (a : Fr) (ha : fv a < RR) (e z : List UInt64) (he : e.length < 1000) : ∀ (i n : Nat) (x : Fr), i < n -> i <= 64 * e.length -> fv x < RR -> Cg (fv x) (fv a ^ (lv e / 2 ^ i)) ->
    zm8 N n e ((i : Int) - 1) a.l z x.l = some (frN (fv a ^ lv e % RR), ()) := by
  intro i
  induction i with
  | zero =>
    intro n x hn hi hx hx2
    obtain ⟨n, rfl⟩ : ∃ m, n = m + 1 := ⟨n - 1, by omega⟩
    rw [zhr]
    unfold zm7
    rw [zaz (by omega), cond_false, show Fr.of? x.l = some x from rfl, show List.length x.l = 4 from rfl, show Nat.beq 4 4 = true from rfl]
    simp only [mst2, bsm]
    rw [Nat.pow_zero, Nat.div_one] at hx2
    have : x = frN (fv a ^ lv e % RR) := zme (hx2.lt hx)
    rw [← this]
  | succ i ih =>
    intro n x hn hi hx hx2
    obtain ⟨n, rfl⟩ : ∃ m, n = m + 1 := ⟨n - 1, by omega⟩
    have hpb := zqj (fv a) (lv e) i 0
    obtain ⟨b, h1, h2⟩ := zu0 (N := N) (a := e) (i := i) (by omega)
    have hy2 : Cg (fv (frN (fv x * fv x % RR))) (fv a ^ (lv e / 2 ^ (i + 1)) * fv a ^ (lv e / 2 ^ (i + 1))) := by rw [zdx]; exact (Cg.mod _).trans (hx2.mul hx2)
    rw [zhr]
    unfold zm7
    rw [show ((i + 1 : Nat) : Int) - 1 = (i : Int) by omega, zav, cond_true, show Fr.of? x.l = some x from rfl, show Fr.of? a.l = some a from rfl, zdo (by omega) (by omega)]
    simp only [bsm]
    rw [zqg hN hx]
    simp only [bsm]
    rw [h1]
    simp only [bsm]
    have hbb : (b == 1) = decide (lv e / 2 ^ i % 2 = 1) := by
      rw [Bool.eq_iff_iff, beq_iff_eq, decide_eq_true_iff, ← h2, ← UInt64.toNat_inj]
      rfl
    rw [hbb]
    by_cases hb : lv e / 2 ^ i % 2 = 1
    . rw [decide_eq_true hb, cond_true, zqg hN ha]
      simp only [bsm]
      rw [if_pos hb] at hpb
      refine ih n _ (by omega) (by omega) (by rw [zdx]; exact zbg _) ?_
      rw [zdx, ← hpb]
      exact (Cg.mod _).trans (hy2.mul Cg.rfl')
    . rw [decide_eq_false hb, cond_false]
      rw [if_neg hb, Nat.mul_one] at hpb
      refine ih n _ (by omega) (by omega) (by rw [zdx]; exact zbg _) ?_
      rw [hpb] at hy2
      exact hy2
theorem zxY {N : Nat} {a : Fr} {e : List UInt64} (ha : fv a < RR) (he : 64 * e.length + 100 < N) (he2 : e.length < 1000) : q73 N a e = some (frN (fv a ^ lv e % RR), ()) := by
  unfold q73
  rw [show q173 N 1 = some ((⟨1, 0, 0, 0⟩ : Fr), ()) from rfl]
  simp only [bsm]
  rw [show wr (64 * (e.length : Int)) = ((64 * e.length : Nat) : Int) by rw [zdo (by omega) (by omega)]; omega, zdo (by omega) (by omega)]
  have hlt : lv e / 2 ^ (64 * e.length) = 0 := by
    apply Nat.div_eq_of_lt
    have := zgM e
    rw [Nat.pow_mul]
    exact this
  exact zxX (by omega) a ha e [0, 0, 0, 0] he2 (64 * e.length) N ⟨1, 0, 0, 0⟩ (by omega) (Nat.le_refl _) (by rw [zcO]; decide) (by rw [hlt, Nat.pow_zero, zcO]; exact Cg.rfl')
end
section
def nd (q : Nat) : Nat -> Nat -> Bool
  | 0, lo => !(Nat.beq (q % lo) 0)
  | k + 1, lo => nd q k lo && nd q k (lo + 2 ^ k)
end
section
theorem zai (x : Fr) : Fr.mk x.a0 x.a1 x.a2 x.a3 = x := rfl
theorem zak : Fr.mk 0 0 0 0 = Fr.zero := rfl
def eqF (x y : Fr) : Bool := decide (x = y)
theorem zal (x y : Fr) : eqL El.u64 [x.a0, x.a1, x.a2, x.a3] [y.a0, y.a1, y.a2, y.a3] = eqF x y := zte x y
theorem zam (x : Fr) (n : UInt64) : eqL El.u64 [x.a0, x.a1, x.a2, x.a3] [n, (0 : UInt64), (0 : UInt64), (0 : UInt64)] = eqF x ⟨n, 0, 0, 0⟩ := zte x ⟨n, 0, 0, 0⟩
theorem zz7 (x : UInt64) : (zcU x 63).toNat = 2 ^ 63 * (x.toNat % 2) := by
  unfold zcU
  rw [UInt64.toNat_ofNat']
  omega
theorem zqk (x y : UInt64) : (zaL x 1 ||| zcU y 63).toNat = x.toNat / 2 + 9223372036854775808 * (y.toNat % 2) := by
  have hx := x.toNat_lt
  rw [UInt64.toNat_or, zz7, zc8, Nat.or_comm, ← Nat.two_pow_add_eq_or_of_lt (by omega)]
  omega
theorem zvc (x : UInt64) : (zaL x 1 ||| 0).toNat = x.toNat / 2 := by
  have h : (zaL x 1 ||| 0) = zaL x 1 := by simp
  rw [h, zc8]
theorem zz8 (a b c d : UInt64) : lv [zaL a 1 ||| zcU b 63, zaL b 1 ||| zcU c 63, zaL c 1 ||| zcU d 63, zaL d 1 ||| 0] = lv [a, b, c, d] / 2 := by
  simp only [lv]
  rw [zqk, zqk, zqk, zvc]
  omega
set_option maxRecDepth 100000 in
theorem zql (N : Nat) (A : Int -> Int -> List UInt64 -> List UInt64 -> Option (Fr × Int × Unit)) (n : Nat) (t s : Int) (z : List UInt64) (a b c d : UInt64) :
    zr7 N A (n + 5) 0 3 t s z [a, b, c, d] = A t (wr (s + 1)) z [zaL a 1 ||| zcU b 63, zaL b 1 ||| zcU c 63, zaL c 1 ||| zcU d 63, zaL d 1 ||| 0] := by kernel_rfl
theorem zz9 {α : Type} {l : List α} (h : l.length = 4) : ∃ a b c d, l = [a, b, c, d] := by
  match l, h with
  | [a, b, c, d], _ => exact ⟨a, b, c, d, rfl⟩
def zk9 (log : Nat) : Nat := 7 ^ ((RR - 1) / 2 ^ log) % RR
theorem zsl {N : Nat} (hN : 500 < N) (log : Nat) (hlog : log <= 32) (z : List UInt64) : ∀ (k n j : Nat) (e : List UInt64), j + k = log -> k < n -> e.length = 4 -> lv e = (RR - 1) / 2 ^ j -> zm6 N n (log : Int) (j : Int) z e = some (frN (zk9 log), 0, ()) := by
  intro k
  induction k with
  | zero =>
    intro n j e hj hn he hv
    obtain ⟨n, rfl⟩ : ∃ m, n = m + 1 := ⟨n - 1, by omega⟩
    obtain rfl : j = log := by omega
    have e4 : List.take (Int.toNat (((4 : Nat) : Int) - 0)) e = e := List.take_of_length_le (by rw [he]; decide)
    have hq := ztg (N := N) (a := ⟨7, 0, 0, 0⟩) (e := e) (by rw [zcO]; decide) (by omega) (by omega)
    rw [zhl]
    unfold zm5
    rw [zac (by omega), cond_false, e4, show q75 N 7 = some ((⟨7, 0, 0, 0⟩ : Fr), ()) from rfl]
    simp only [bsm, zai]
    rw [hq]
    simp only [bsm, zai]
    rw [zcO, hv]
    rfl
  | succ k ih =>
    intro n j e hj hn he hv
    obtain ⟨n, rfl⟩ : ∃ m, n = m + 1 := ⟨n - 1, by omega⟩
    obtain ⟨M, rfl⟩ : ∃ M, N = M + 5 := ⟨N - 5, by omega⟩
    obtain ⟨a, b, c, d, rfl⟩ := zz9 he
    rw [zhl]
    unfold zm5
    rw [zae (by omega), cond_true, zql, zay (by omega)]
    refine ih n (j + 1) _ (by omega) (by omega) rfl ?_
    rw [zz8, hv, Nat.div_div_eq_div_mul, Nat.pow_succ]
theorem zxZ {N : Nat} (hN : 500 < N) {log : Nat} (h : log <= 32) : q77 N (log : Int) = some (frN (zk9 log), 0, ()) := by
  have hl : lv [18446744069414584320, 6034159408538082302, 3691218898639771653, 8353516859464449352] = (RR - 1) / 2 ^ 0 := by decide +kernel
  unfold q77
  rw [zac (by omega), cond_false, zac (by omega), cond_false]
  rw [show q169 N = some ((⟨18446744069414584321, 6034159408538082302, 3691218898639771653, 8353516859464449352⟩ : Fr), ()) from rfl]
  simp only [bsm]
  exact zsl hN log h [0, 0, 0, 0] log N 0 _ (by omega) (by omega) rfl hl
theorem ziu (log : Nat) : zk9 log < RR := zbg _
theorem zx0 : fv ⟨1, 0, 0, 0⟩ = 1 := by decide +kernel
theorem zx1 (N : Nat) (n : UInt64) : q75 N n = some ((⟨n, 0, 0, 0⟩ : Fr), ()) := rfl
theorem zla (N : Nat) (n : UInt64) : q173 N n = some ((⟨n, 0, 0, 0⟩ : Fr), ()) := rfl
class Big (N : Nat) : Prop where
  h : 2000 <= N
instance : Big 2000 := ⟨Nat.le_refl _⟩
end
section
def q195 (N : Nat) (at0 : Int) (w1 : List Int) : Option (Row × Unit) :=
  must (leI (↑(3 : Nat) : Int) (↑w1.length : Int)) (must (leN ((0 : Nat) + (3 : Nat)) w1.length) (Option.bind (q75 N (1 : UInt64)) fun rr0 => cond (eqI at0 (↑(0 : Nat) : Int)) (must (eqI at0 (↑(0 : Nat) : Int)) (some ((Row.mk (rr0.1) (Fr.zero) (Fr.zero) (Fr.zero) (Fr.zero) (Fr.zero) (Fr.zero) (Fr.zero) (List.getD w1 (0 : Nat) (0 : Int)) (List.getD w1 ((0 : Nat) + (1 : Nat)) (0 : Int)) (List.getD w1 ((0 : Nat) + (1 : Nat) + (1 : Nat)) (0 : Int)), ())))) (cond (eqI at0 (↑((0 : Nat) + (1 : Nat)) : Int)) (must (eqI at0 (↑((0 : Nat) + (1 : Nat)) : Int)) (some ((Row.mk (Fr.zero) (rr0.1) (Fr.zero) (Fr.zero) (Fr.zero) (Fr.zero) (Fr.zero) (Fr.zero) (List.getD w1 (0 : Nat) (0 : Int)) (List.getD w1 ((0 : Nat) + (1 : Nat)) (0 : Int)) (List.getD w1 ((0 : Nat) + (1 : Nat) + (1 : Nat)) (0 : Int)), ())))) (cond (eqI at0 (↑((0 : Nat) + (1 : Nat) + (1 : Nat)) : Int)) (must (eqI at0 (↑((0 : Nat) + (1 : Nat) + (1 : Nat)) : Int)) (some ((Row.mk (Fr.zero) (Fr.zero) (rr0.1) (Fr.zero) (Fr.zero) (Fr.zero) (Fr.zero) (Fr.zero) (List.getD w1 (0 : Nat) (0 : Int)) (List.getD w1 ((0 : Nat) + (1 : Nat)) (0 : Int)) (List.getD w1 ((0 : Nat) + (1 : Nat) + (1 : Nat)) (0 : Int)), ())))) (cond (eqI at0 (↑((0 : Nat) + (1 : Nat) + (1 : Nat) + (1 : Nat)) : Int)) (must (eqI at0 (↑((0 : Nat) + (1 : Nat) + (1 : Nat) + (1 : Nat)) : Int)) (some ((Row.mk (Fr.zero) (Fr.zero) (Fr.zero) (rr0.1) (Fr.zero) (Fr.zero) (Fr.zero) (Fr.zero) (List.getD w1 (0 : Nat) (0 : Int)) (List.getD w1 ((0 : Nat) + (1 : Nat)) (0 : Int)) (List.getD w1 ((0 : Nat) + (1 : Nat) + (1 : Nat)) (0 : Int)), ())))) (cond (eqI at0 (↑((0 : Nat) + (1 : Nat) + (1 : Nat) + (1 : Nat) + (1 : Nat)) : Int)) (must (eqI at0 (↑((0 : Nat) + (1 : Nat) + (1 : Nat) + (1 : Nat) + (1 : Nat)) : Int)) (some ((Row.mk (Fr.zero) (Fr.zero) (Fr.zero) (Fr.zero) (rr0.1) (Fr.zero) (Fr.zero) (Fr.zero) (List.getD w1 (0 : Nat) (0 : Int)) (List.getD w1 ((0 : Nat) + (1 : Nat)) (0 : Int)) (List.getD w1 ((0 : Nat) + (1 : Nat) + (1 : Nat)) (0 : Int)), ())))) (cond (eqI at0 (↑((0 : Nat) + (1 : Nat) + (1 : Nat) + (1 : Nat) + (1 : Nat) + (1 : Nat)) : Int)) (must (eqI at0 (↑((0 : Nat) + (1 : Nat) + (1 : Nat) + (1 : Nat) + (1 : Nat) + (1 : Nat)) : Int)) (some ((Row.mk (Fr.zero) (Fr.zero) (Fr.zero) (Fr.zero) (Fr.zero) (rr0.1) (Fr.zero) (Fr.zero) (List.getD w1 (0 : Nat) (0 : Int)) (List.getD w1 ((0 : Nat) + (1 : Nat)) (0 : Int)) (List.getD w1 ((0 : Nat) + (1 : Nat) + (1 : Nat)) (0 : Int)), ())))) (cond (eqI at0 (↑((0 : Nat) + (1 : Nat) + (1 : Nat) + (1 : Nat) + (1 : Nat) + (1 : Nat) + (1 : Nat)) : Int)) (must (eqI at0 (↑((0 : Nat) + (1 : Nat) + (1 : Nat) + (1 : Nat) + (1 : Nat) + (1 : Nat) + (1 : Nat)) : Int)) (some ((Row.mk (Fr.zero) (Fr.zero) (Fr.zero) (Fr.zero) (Fr.zero) (Fr.zero) (rr0.1) (Fr.zero) (List.getD w1 (0 : Nat) (0 : Int)) (List.getD w1 ((0 : Nat) + (1 : Nat)) (0 : Int)) (List.getD w1 ((0 : Nat) + (1 : Nat) + (1 : Nat)) (0 : Int)), ())))) (must (eqI at0 (↑((0 : Nat) + (1 : Nat) + (1 : Nat) + (1 : Nat) + (1 : Nat) + (1 : Nat) + (1 : Nat) + (1 : Nat)) : Int)) (must (eqI at0 (↑((0 : Nat) + (1 : Nat) + (1 : Nat) + (1 : Nat) + (1 : Nat) + (1 : Nat) + (1 : Nat) + (1 : Nat)) : Int)) (some ((Row.mk (Fr.zero) (Fr.zero) (Fr.zero) (Fr.zero) (Fr.zero) (Fr.zero) (Fr.zero) (rr0.1) (List.getD w1 (0 : Nat) (0 : Int)) (List.getD w1 ((0 : Nat) + (1 : Nat)) (0 : Int)) (List.getD w1 ((0 : Nat) + (1 : Nat) + (1 : Nat)) (0 : Int)), ())))))))))))))
theorem zx2 : p195 = q195 := by
  (repeat (apply funext; intro _))
  simp only [p195, q195, zuQ, zai, zal, zam, zak]
def q108 (N : Nat) (s0 : Stp) : Option (List Row × Int × Unit) :=
  cond ((eqI s0.kind (1 : Int))) (cond ((eqI s0.kind (1 : Int))) (some (([], (0 : Int), ()))) (cond ((eqI s0.kind (2 : Int))) (some (([Row.mk (s0.q0) (s0.q1) (s0.q2) (s0.q3) (s0.q4) (Fr.zero) (Fr.zero) (Fr.zero) (mxI s0.v0 (-1 : Int)) (mxI s0.v1 (-1 : Int)) (mxI s0.v2 (-1 : Int))], (0 : Int), ()))) (cond ((eqI s0.kind (3 : Int))) (Option.bind (q195 N (5 : Int) ([Stp.v0 s0, (-1 : Int), (-1 : Int)])) fun rr7 => some (([rr7.1], (0 : Int), ()))) (cond ((eqI s0.kind (4 : Int))) (Option.bind (q195 N (6 : Int) ([Stp.v0 s0, (-1 : Int), Stp.v2 s0])) fun rr6 => some (([rr6.1], (0 : Int), ()))) (cond ((eqI s0.kind (5 : Int))) (Option.bind (q195 N (7 : Int) ([Stp.v0 s0, Stp.v1 s0, (-1 : Int)])) fun rr5 => some (([rr5.1, Row.mk (Fr.zero) (Fr.zero) (Fr.zero) (Fr.zero) (Fr.zero) (Fr.zero) (Fr.zero) (Fr.zero) s0.v2 (-1 : Int) (-1 : Int)], (0 : Int), ()))) (cond ((eqI s0.kind (7 : Int))) (Option.bind (q195 N (1 : Int) ([Stp.v0 s0, (-1 : Int), (-1 : Int)])) fun rr4 => some (([rr4.1], (0 : Int), ()))) (some (([], (11 : Int), ()))))))))) (cond ((eqI s0.kind (6 : Int))) (some (([], (0 : Int), ()))) (cond ((eqI s0.kind (2 : Int))) (some (([Row.mk (s0.q0) (s0.q1) (s0.q2) (s0.q3) (s0.q4) (Fr.zero) (Fr.zero) (Fr.zero) (mxI s0.v0 (-1 : Int)) (mxI s0.v1 (-1 : Int)) (mxI s0.v2 (-1 : Int))], (0 : Int), ()))) (cond ((eqI s0.kind (3 : Int))) (Option.bind (q195 N (5 : Int) ([Stp.v0 s0, (-1 : Int), (-1 : Int)])) fun rr3 => some (([rr3.1], (0 : Int), ()))) (cond ((eqI s0.kind (4 : Int))) (Option.bind (q195 N (6 : Int) ([Stp.v0 s0, (-1 : Int), Stp.v2 s0])) fun rr2 => some (([rr2.1], (0 : Int), ()))) (cond ((eqI s0.kind (5 : Int))) (Option.bind (q195 N (7 : Int) ([Stp.v0 s0, Stp.v1 s0, (-1 : Int)])) fun rr1 => some (([rr1.1, Row.mk (Fr.zero) (Fr.zero) (Fr.zero) (Fr.zero) (Fr.zero) (Fr.zero) (Fr.zero) (Fr.zero) s0.v2 (-1 : Int) (-1 : Int)], (0 : Int), ()))) (cond ((eqI s0.kind (7 : Int))) (Option.bind (q195 N (1 : Int) ([Stp.v0 s0, (-1 : Int), (-1 : Int)])) fun rr0 => some (([rr0.1], (0 : Int), ()))) (some (([], (11 : Int), ())))))))))
theorem zx3 : p108 = q108 := by
  (repeat (apply funext; intro _))
  simp only [p108, q108, hide_eq, zx2, zai, zal, zam, zak]
end
section
def Sc (x : Fr) : Prop := fv x < RR
def fmul (x y : Fr) : Fr := frN (fv x * fv y % RR)
def fadd (x y : Fr) : Fr := frN ((fv x + fv y) % RR)
theorem zth (n : Nat) : Sc (frN (n % RR)) := by unfold Sc; rw [zdx]; exact zbg _
theorem zx4 (x y : Fr) : Sc (fmul x y) := zth _
theorem zaw : Sc Fr.zero := by unfold Sc; decide +kernel
theorem zx5 : Sc ⟨1, 0, 0, 0⟩ := by unfold Sc; decide +kernel
theorem zAa {x y : Fr} (hx : Sc x) (hy : Sc y) (h : Cg (fv x) (fv y)) : x = y := by
  unfold Cg at h
  unfold Sc at hx hy
  rw [Nat.mod_eq_of_lt hx, Nat.mod_eq_of_lt hy] at h
  exact ztc h
theorem mulF {N : Nat} (hN : 10 < N) {a b : Fr} (ha : Sc a) : q76 N a b = some (fmul a b, ()) := zvb hN ha
theorem mulR {N : Nat} (hN : 10 < N) {a b : Fr} (hb : Sc b) : q94 N a b = some (fmul a b, ()) := zqg hN hb
theorem addR {N : Nat} (hN : 10 < N) {a b : Fr} (ha : Sc a) (hb : Sc b) : q81 N a b = some (fadd a b, ()) := zxQ hN ha hb
end
section
def q204 (N : Nat) (log0 : Int) : Option (Bool × Unit) :=
  cond ((leI (1 : Int) log0)) (some (((leI log0 (6 : Int)), ()))) (some ((false, ())))
theorem zti : p204 = q204 := by
  (repeat (apply funext; intro _))
  simp only [p204, q204, hide_eq, zai, zal, zam, zak]
def q136 (N : Nat) (log0 cell1 : Int) : Option (Fr × Int × Unit) :=
  Option.bind (q204 N log0) fun r0 => cond (!r0.1) (some ((Fr.zero, (1 : Int), ()))) (cond ((ltI cell1 (0 : Int))) (some ((Fr.zero, (1 : Int), ()))) (cond ((leI ((shlI (3 : Int) (UInt64.toNat ((u64I log0))))) cell1)) (some ((Fr.zero, (1 : Int), ()))) (Option.bind (q77 N log0) fun r1 => Option.bind (q75 N (7 : UInt64)) fun r2 => must (!eqI ((shlI (1 : Int) (UInt64.toNat ((u64I log0))))) (0 : Int)) (Option.bind (q72 N (r2.1) ([(u64I ((wr (Int.tdiv cell1 ((shlI (1 : Int) (UInt64.toNat ((u64I log0)))))))))])) fun r3 => must (!eqI ((shlI (1 : Int) (UInt64.toNat ((u64I log0))))) (0 : Int)) (Option.bind (q72 N (r1.1) ([(u64I ((Int.tmod cell1 ((shlI (1 : Int) (UInt64.toNat ((u64I log0))))))))])) fun r4 => Option.bind (q76 N (r3.1) (r4.1)) fun r5 => some ((r5.1, (0 : Int), ())))))))
theorem zx6 : p136 = q136 := by
  (repeat (apply funext; intro _))
  simp only [p136, q136, hide_eq, zti, zxE, zuQ, zzX, zzW, zai, zal, zam, zak]
end
section
theorem sh1 {L : Nat} (h : L <= 6) : shlI 1 (UInt64.toNat (u64I (L : Int))) = ((2 ^ L : Nat) : Int) := by
  have : ∀ k : Fin 7, shlI 1 (UInt64.toNat (u64I (k.val : Int))) = ((2 ^ k.val : Nat) : Int) := by decide +kernel
  exact this ⟨L, by omega⟩
theorem sh3 {L : Nat} (h : L <= 6) : shlI 3 (UInt64.toNat (u64I (L : Int))) = ((3 * 2 ^ L : Nat) : Int) := by
  have : ∀ k : Fin 7, shlI 3 (UInt64.toNat (u64I (k.val : Int))) = ((3 * 2 ^ k.val : Nat) : Int) := by decide +kernel
  exact this ⟨L, by omega⟩
theorem znh {L : Nat} (h : L <= 6) : 2 ^ L <= 64 := Nat.pow_le_pow_right (by decide) h
theorem zlb (L : Nat) : 0 < 2 ^ L := Nat.pow_pos (by decide)
theorem zx7 (k : Nat) (h : k < 18446744073709551616) : lv [u64I (k : Int)] = k := by
  simp only [lv]
  rw [zis h]
  omega
theorem powF {N : Nat} [Big N] {a : Fr} (ha : Sc a) {k : Nat} (h : k < 18446744073709551616) : q72 N a [u64I (k : Int)] = some (frN (fv a ^ k % RR), ()) := by
  have hB : 2000 <= N := Big.h
  rw [ztg (e := [u64I (k : Int)]) ha (show 64 * 1 + 100 < N by omega) (show 1 < 1000 by omega), zx7 k h]
theorem sc7 : Sc ⟨7, 0, 0, 0⟩ := by unfold Sc; decide +kernel
theorem fv7 : fv ⟨7, 0, 0, 0⟩ = 7 := by decide +kernel
theorem zvd (L : Nat) : Sc (frN (zk9 L)) := by unfold Sc; rw [zk7 (ziu L)]; exact ziu L
def nm (L x : Nat) : Fr := fmul (frN (7 ^ (x / 2 ^ L) % RR)) (frN (zk9 L ^ (x % 2 ^ L) % RR))
theorem zAb (L x : Nat) : Sc (nm L x) := zx4 _ _
theorem zve (N : Nat) {L : Nat} (h1 : 1 <= L) (h6 : L <= 6) : q204 N (L : Int) = some (true, ()) := by
  unfold q204
  rw [zaO (by omega), cond_true, zaO (by omega)]
theorem zvf {N : Nat} [Big N] {L x : Nat} (h1 : 1 <= L) (h6 : L <= 6) (hx : x < 3 * 2 ^ L) : q136 N (L : Int) (x : Int) = some (nm L x, 0, ()) := by
  have hB : 2000 <= N := Big.h
  have hp := zlb L
  have hle := znh h6
  have hd : x / 2 ^ L <= x := Nat.div_le_self _ _
  have hm : x % 2 ^ L < 2 ^ L := Nat.mod_lt _ hp
  have e0 : eqI ((2 ^ L : Nat) : Int) 0 = false := zaR (by omega)
  have e9 : wr ((x / 2 ^ L : Nat) : Int) = ((x / 2 ^ L : Nat) : Int) := by
    generalize x / 2 ^ L = q at hd
    exact zdo (by omega) (by omega)
  unfold q136
  rw [zve N h1 h6]
  simp only [bsm]
  rw [Bool.not_true, cond_false, zac (by omega), cond_false, sh3 h6, zaz (by omega), cond_false, zxZ (by omega) (by omega), zx1]
  simp only [bsm]
  rw [sh1 h6, e0, Bool.not_false, mst2, zmb, zmc, e9, powF sc7 (by omega)]
  simp only [bsm]
  rw [mst2, powF (zvd L) (by omega)]
  simp only [bsm]
  rw [mulF (by omega) (zth _), fv7, zk7 (ziu L)]
  rfl
def pre (l : List Fr) : Nat -> Nat
  | 0 => 1
  | i + 1 => pre l i * fv (l.getD i Fr.zero)
end
end Go.Proofs.Ytgimohchocjgcaa.V
