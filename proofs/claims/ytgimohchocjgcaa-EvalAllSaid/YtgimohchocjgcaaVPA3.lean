import Derived.Test.YtgimohchocjgcaaVFS
import Derived.KernelRfl
import Derived.Test.YtgimohchocjgcaaVUM
import Derived.Test.YtgimohchocjgcaaVLR
import Derived.Test.YtgimohchocjgcaaVWB1
set_option linter.unusedVariables false
set_option linter.unusedSimpArgs false
namespace Go.Proofs.Ytgimohchocjgcaa.V
section
theorem alg5 (B A1 A2 A3 P x y c s d : Nat) (hv : A1 + A3 = A2 + P * c) (h3 : s + y + c = x + B * d) : A1 + P * s + (A3 + P * y) = A2 + P * x + P * B * d := by
 have e : P * (s + y + c) = P * (x + B * d) := by rw [h3]
 grind
theorem zvc (N : Nat) (a b z m : List UInt64) (ha : a.length = 4) (hb : b.length = 4) (cc : UInt64) : ∀ (k n j : Nat) (c : UInt64) (t : List UInt64), j + k = 4 -> k < n -> t.length = 4 -> c.toNat <= 1 ->
  lv (t.take j) + lv (b.take j) = lv (a.take j) + 18446744073709551616 ^ j * c.toNat ->
  ∃ (c' : UInt64) (t' : List UInt64) (n' : Nat), t'.length = 4 /\ c'.toNat <= 1 /\ lv t' + lv b = lv a + 18446744073709551616 ^ 4 * c'.toNat /\ zkE N n c cc (j : Int) a b z m t = zkE N (n' + 1) c' cc 4 a b z m t' := by
 intro k
 induction k with
 | zero =>
  intro n j c t hj hn ht hc hv
  obtain ⟨n, rfl⟩ : ∃ m, n = m + 1 := ⟨n - 1, by omega⟩
  obtain rfl : j = 4 := by omega
  rw [List.take_of_length_le (l := t) (by omega), List.take_of_length_le (l := a) (by omega), List.take_of_length_le (l := b) (by omega)] at hv
  exact ⟨c, t, n, ht, hc, hv, rfl⟩
 | succ k ih =>
  intro n j c t hj hn ht hc hv
  obtain ⟨n, rfl⟩ : ∃ m, n = m + 1 := ⟨n - 1, by omega⟩
  obtain ⟨s, d, h1, h2, h3⟩ := zjG (x := a.getD j 0) (y := b.getD j 0) hc
  rw [zio]
  unfold zoE
  rw [zab (show (j : Int) < 4 by omega), cond_true, zar (by omega)]
  simp only [zbb, zas, Int.toNat_natCast]
  rw [zaB (by omega)]
  simp only [Bool.and_self, mst2, h1, bsm]
  refine ih n (j + 1) _ _ (by omega) (by omega) (by rw [zau]; exact ht) h2 ?_
  rw [zaL _ _ (by omega), zam a, zam b, Nat.pow_succ]
  exact alg5 _ _ _ _ _ _ _ _ _ _ hv h3
theorem zsx (N : Nat) (z m t0 : List UInt64) (hm : m.length = 4) : ∀ (k n j : Nat) (c : UInt64) (t : List UInt64), j + k = 4 -> k < n -> t.length = 4 -> c.toNat <= 1 -> (∀ p, j <= p -> t.getD p 0 = t0.getD p 0) ->
  lv (t.take j) + 18446744073709551616 ^ j * c.toNat = lv (t0.take j) + lv (m.take j) ->
  ∃ (c' : UInt64) (r : Fr), c'.toNat <= 1 /\ fv r + 18446744073709551616 ^ 4 * c'.toNat = lv (t0.take 4) + lv m /\ zin N n c (j : Int) z m t = some (r, ()) := by
 intro k
 induction k with
 | zero =>
  intro n j c t hj hn ht hc hp hv
  obtain ⟨n, rfl⟩ : ∃ m, n = m + 1 := ⟨n - 1, by omega⟩
  obtain rfl : j = 4 := by omega
  rw [List.take_of_length_le (l := t) (by omega), List.take_of_length_le (l := m) (by omega)] at hv
  obtain ⟨r, h1, h2⟩ := of4 ht
  refine ⟨c, r, hc, by rw [fv, h2]; exact hv, ?_⟩
  rw [zg9]
  unfold zim
  rw [zaa (by omega), cond_false, ht, h1]
  rfl
 | succ k ih =>
  intro n j c t hj hn ht hc hp hv
  obtain ⟨n, rfl⟩ : ∃ m, n = m + 1 := ⟨n - 1, by omega⟩
  obtain ⟨s, d, h1, h2, h3⟩ := zc7 (x := t.getD j 0) (y := m.getD j 0) hc
  rw [zg9]
  unfold zim
  rw [zab (show (j : Int) < 4 by omega), cond_true, zar (by omega)]
  simp only [zbb, zas, Int.toNat_natCast]
  rw [zaB (by omega)]
  simp only [Bool.and_self, mst2, h1, bsm]
  refine ih n (j + 1) _ _ (by omega) (by omega) (by rw [zau]; exact ht) h2 ?_ ?_
  ·intro p h
   rw [zaG, if_neg (by omega)]
   exact hp p (by omega)
  ·rw [zaL _ _ (by omega), zam t0, zam m, Nat.pow_succ, ← hp j (Nat.le_refl _)]
   exact zgd.alg4 _ _ _ _ _ _ _ _ _ _ hv h3
theorem zsy {a b : Nat} (ha : a < RR) (hb : b < RR) : (a + (RR - b)) % RR = if b <= a then a - b else a + RR - b := by
 split
 ·rw [show a + (RR - b) = (a - b) + RR by omega, Nat.add_mod_right, Nat.mod_eq_of_lt (by omega)]
 ·rw [Nat.mod_eq_of_lt (by omega)]; omega
theorem zwE {N : Nat} (hN : 10 < N) {a b : Fr} (ha : fv a < RR) (hb : fv b < RR) : q82 N a b = some (frN ((fv a + (RR - fv b)) % RR), ()) := by
 have hRR := zsu
 obtain ⟨c', t', n', h1, h2, h3, h4⟩ := zvc N a.l b.l [0, 0, 0, 0] mL rfl rfl 0 4 N 0 0 [0, 0, 0, 0] rfl (by omega) rfl (by decide) (by simp [lv])
 have hq : q82 N a b = zkE N N 0 0 ((0 : Nat) : Int) a.l b.l [0, 0, 0, 0] mL [0, 0, 0, 0] := rfl
 have e1 : lv a.l = fv a := rfl
 have e2 : lv b.l = fv b := rfl
 rw [e1, e2] at h3
 have htl := zhM t'
 rw [h1] at htl
 rw [hq, h4, zio]
 unfold zoE
 rw [zaa (by omega), cond_false, h1, zsy ha hb]
 by_cases hc : c' = 0
 ·rw [hc] at h3 ⊢
  rw [show UInt64.toNat 0 = 0 from rfl] at h3
  obtain ⟨r, g1, g2⟩ := of4 h1
  rw [beq_self_eq_true, cond_true, show Nat.beq 4 4 = true from rfl, g1]
  simp only [mst2, bsm]
  have hfr : fv r = lv t' := by rw [fv, g2]
  rw [if_pos (by omega)]
  have : r = frN (fv a - fv b) := ziy (by omega)
  rw [← this]
 ·have hc0 : c'.toNat = 1 := by
   have : c'.toNat ≠ 0 := fun h => hc (UInt64.toNat_inj.1 h)
   omega
  rw [hc0] at h3
  rw [beq_eq_false_iff_ne.2 hc, cond_false]
  obtain ⟨c2, r, g1, g2, g3⟩ := zsx N [0, 0, 0, 0] mL t' rfl 4 N 0 0 t' rfl (by omega) h1 (by decide) (fun _ _ => rfl) (by simp [lv])
  rw [List.take_of_length_le (by omega), zhg] at g2
  have hfr := zBV r
  rw [if_neg (by omega)]
  have : r = frN (fv a + RR - fv b) := ziy (by omega)
  rw [← this]
  exact g3
theorem zsz (N : Nat) (a b : List UInt64) (ha : a.length = 4) (hb : b.length = 4) : ∀ (k n j : Nat) (c : UInt64) (t : List UInt64), j + k = 4 -> k < n -> t.length = 4 -> c.toNat <= 1 ->
  lv (t.take j) + lv (b.take j) = lv (a.take j) + 18446744073709551616 ^ j * c.toNat ->
  ∃ (c' : UInt64) (t' : List UInt64) (n' : Nat), t'.length = 4 /\ c'.toNat <= 1 /\ lv t' + lv b = lv a + 18446744073709551616 ^ 4 * c'.toNat /\ zfN N n a b mL c (j : Int) t = zfN N (n' + 1) a b mL c' 4 t' := by
 intro k
 induction k with
 | zero =>
  intro n j c t hj hn ht hc hv
  obtain ⟨n, rfl⟩ : ∃ m, n = m + 1 := ⟨n - 1, by omega⟩
  obtain rfl : j = 4 := by omega
  rw [List.take_of_length_le (l := t) (by omega), List.take_of_length_le (l := a) (by omega), List.take_of_length_le (l := b) (by omega)] at hv
  exact ⟨c, t, n, ht, hc, hv, rfl⟩
 | succ k ih =>
  intro n j c t hj hn ht hc hv
  obtain ⟨n, rfl⟩ : ∃ m, n = m + 1 := ⟨n - 1, by omega⟩
  obtain ⟨s, d, h1, h2, h3⟩ := zjG (x := a.getD j 0) (y := b.getD j 0) hc
  rw [zhe]
  unfold zix
  rw [show List.length mL = 4 from rfl, zab (show (j : Int) < ((4 : Nat) : Int) by omega), cond_true, zar (by omega)]
  simp only [zbb, zas, Int.toNat_natCast]
  rw [zaB (show j < a.length by omega), zaB (show j < b.length by omega), zaB (show j < t.length by omega)]
  simp only [Bool.and_self, mst2, h1, bsm]
  refine ih n (j + 1) _ _ (by omega) (by omega) (by rw [zau]; exact ht) h2 ?_
  rw [zaL _ _ (by omega), zam a, zam b, Nat.pow_succ]
  exact alg5 _ _ _ _ _ _ _ _ _ _ hv h3
theorem zoO (N : Nat) (t0 : List UInt64) : ∀ (k n j : Nat) (c : UInt64) (t : List UInt64), j + k = 4 -> k < n -> t.length = 4 -> c.toNat <= 1 -> (∀ p, j <= p -> t.getD p 0 = t0.getD p 0) ->
  lv (t.take j) + 18446744073709551616 ^ j * c.toNat = lv (t0.take j) + lv (mL.take j) ->
  ∃ (c' : UInt64) (r : List UInt64), c'.toNat <= 1 /\ r.length = 4 /\ lv r + 18446744073709551616 ^ 4 * c'.toNat = lv (t0.take 4) + RR /\ zfi N n mL c (j : Int) t = some (r, ()) := by
 intro k
 induction k with
 | zero =>
  intro n j c t hj hn ht hc hp hv
  obtain ⟨n, rfl⟩ : ∃ m, n = m + 1 := ⟨n - 1, by omega⟩
  obtain rfl : j = 4 := by omega
  rw [List.take_of_length_le (l := t) (by omega), show List.take 4 mL = mL from rfl, zhg] at hv
  refine ⟨c, t, hc, ht, hv, ?_⟩
  rw [zfM]
  unfold zfh
  rw [show List.length mL = 4 from rfl, zaa (by omega), cond_false]
 | succ k ih =>
  intro n j c t hj hn ht hc hp hv
  obtain ⟨n, rfl⟩ : ∃ m, n = m + 1 := ⟨n - 1, by omega⟩
  obtain ⟨s, d, h1, h2, h3⟩ := zc7 (x := t.getD j 0) (y := mL.getD j 0) hc
  rw [zfM]
  unfold zfh
  rw [show List.length mL = 4 from rfl, zab (show (j : Int) < ((4 : Nat) : Int) by omega), cond_true, zar (by omega)]
  rw [ht, zab (show (j : Int) < ((4 : Nat) : Int) by omega)]
  simp only [zas, Int.toNat_natCast, Bool.and_self, mst2, h1, bsm]
  refine ih n (j + 1) _ _ (by omega) (by omega) (by rw [zau]; exact ht) h2 ?_ ?_
  ·intro p h
   rw [zaG, if_neg (by omega)]
   exact hp p (by omega)
  ·rw [zaL _ _ (by omega), zam t0, zam mL, Nat.pow_succ, ← hp j (Nat.le_refl _)]
   exact zgd.alg4 _ _ _ _ _ _ _ _ _ _ hv h3
theorem zyT {N : Nat} (hN : 10 < N) {a b : List UInt64} (ha : a.length = 4) (hb : b.length = 4) (hal : lv a < RR) (hbl : lv b < RR) : ∃ r, q177 N a b mL = some (r, ()) /\ r.length = 4 /\ lv r = (lv a + (RR - lv b)) % RR := by
 have hRR := zsu
 obtain ⟨c', t', n', h1, h2, h3, h4⟩ := zsz N a b ha hb 4 N 0 0 [0, 0, 0, 0] rfl (by omega) rfl (by decide) (by simp [lv])
 have hq : q177 N a b mL = zfN N N a b mL 0 ((0 : Nat) : Int) [0, 0, 0, 0] := by
  unfold q177
  rw [show List.length mL = 4 from rfl, Int.toNat_natCast, zax rfl, zaE (by omega)]
  simp only [Bool.and_self, mst2]
  rfl
 have htl := zhM t'
 rw [h1] at htl
 rw [hq, h4, zhe]
 unfold zix
 rw [show List.length mL = 4 from rfl, zaa (by omega), cond_false, zsy hal hbl]
 by_cases hc : c' = 1
 ·rw [hc] at h3 ⊢
  rw [show UInt64.toNat 1 = 1 from rfl] at h3
  rw [beq_self_eq_true, cond_true]
  obtain ⟨c2, r, g1, g4, g2, g3⟩ := zoO N t' 4 N 0 0 t' rfl (by omega) h1 (by decide) (fun _ _ => rfl) (by simp [lv])
  rw [List.take_of_length_le (by omega)] at g2
  have hrl := zhM r
  rw [g4] at hrl
  rw [if_neg (by omega)]
  exact ⟨r, g3, g4, by omega⟩
 ·have hc0 : c'.toNat = 0 := by
   have : c'.toNat ≠ 1 := fun h => hc (UInt64.toNat_inj.1 h)
   omega
  rw [hc0] at h3
  rw [beq_eq_false_iff_ne.2 hc, cond_false, if_pos (by omega)]
  exact ⟨t', rfl, h1, by omega⟩
theorem zwF {N : Nat} (hN : 10 < N) {a b : Fr} (ha : fv a < RR) (hb : fv b < RR) : q83 N a b = some (frN ((fv a + (RR - fv b)) % RR), ()) := by
 obtain ⟨r, h1, h2, h3⟩ := zyT hN (a := a.l) (b := b.l) rfl rfl ha hb
 have hq : q83 N a b = Option.bind (q177 N a.l b.l mL) fun r1 => Option.bind (q175 N r1.1) fun r2 => some ((Prod.fst r2, ())) := rfl
 rw [hq, h1]
 simp only [bsm]
 rw [zmE (by omega)]
 simp only [bsm]
 rw [h3]
 rfl
theorem zjI : fv ⟨0, 0, 0, 0⟩ = 0 := by decide
theorem zjJ (n : UInt64) : fv ⟨n, 0, 0, 0⟩ = n.toNat := by simp [fv, Fr.l, lv]
theorem zwG : 0 < RR := by decide
theorem zwH {N : Nat} (hN : 10 < N) {a : Fr} (ha : fv a < RR) : q84 N a = some (frN ((RR - fv a) % RR), ()) := by
 unfold q84
 rw [zwE hN (by rw [zjI]; exact zwG) ha, zjI, Nat.zero_add]
 rfl
theorem zsA {N : Nat} (hN : 10 < N) {a : Fr} (ha : fv a < RR) : q85 N a = some (frN ((RR - fv a) % RR), ()) := by
 unfold q85
 rw [zwF hN (by rw [zjI]; exact zwG) ha, zjI, Nat.zero_add]
 rfl
theorem zsB {N : Nat} (hN : 10 < N) (a : Fr) : q69 N a = some (decide (fv a < RR), ()) := by
 have hq : q69 N a = Option.bind (q168 N a.l mL) fun r1 => some ((Prod.fst r1, ())) := rfl
 rw [hq, zmz (N := N) (a := a.l) (m := mL) (by decide) rfl (by show 4 < N; omega), zhg]
 rfl
theorem zyU (x y : Nat) : ltI (cmpN x y) 0 = decide (x < y) := by
 unfold cmpN
 split
 ·rename_i h; rw [decide_eq_true h]; rfl
 ·rename_i h
  rw [decide_eq_false h]
  split <;> rfl
theorem zB1 {N : Nat} (hN : 10 < N) (a : Fr) : q79 N a = some (decide (fv a < RR), ()) := by
 have hq : q79 N a = Option.bind (q61 N a.l mL) fun r1 => some (((ltI r1.1 (0 : Int)), ())) := rfl
 rw [hq, zBT (N := N) (a := a.l) (b := mL) (show (4 : Nat) < 1000000 by omega) (show (4 : Nat) < 1000000 by omega) (show max 4 4 < N by omega), zhg]
 simp only [bsm]
 rw [zyU]
 rfl
theorem zyV {N : Nat} (hN : 10 < N) {a b : Fr} (ha : fv a < RR) : q76 N a b = some (frN (fv a * fv b % RR), ()) := by
 obtain ⟨r, h1, h2⟩ := zBX hN (b := b) ha
 rw [h1, ziy h2]
theorem zyW (a E i M : Nat) : (a ^ (E / 2 ^ (i + 1)) * a ^ (E / 2 ^ (i + 1)) * (if E / 2 ^ i % 2 = 1 then a else 1)) = a ^ (E / 2 ^ i) := by
 have e : E / 2 ^ i = 2 * (E / 2 ^ (i + 1)) + E / 2 ^ i % 2 := by
  rw [Nat.pow_succ, ← Nat.div_div_eq_div_mul]; omega
 have h2 : E / 2 ^ i % 2 = 0 \/ E / 2 ^ i % 2 = 1 := by omega
 rw [← Nat.pow_add]
 rcases h2 with h | h
 ·rw [h, if_neg (by omega), Nat.mul_one]; congr 1; omega
 ·rw [h, if_pos rfl, ← Nat.pow_succ]; congr 1; omega
def Cg (a b : Nat) : Prop := a % RR = b % RR
theorem Cg.rfl' {a : Nat} : Cg a a := rfl
theorem Cg.symm {a b : Nat} (h : Cg a b) : Cg b a := Eq.symm h
theorem Cg.trans {a b c : Nat} (h : Cg a b) (g : Cg b c) : Cg a c := Eq.trans h g
theorem Cg.mul {a b c d : Nat} (h1 : Cg a b) (h2 : Cg c d) : Cg (a * c) (b * d) := by
 unfold Cg at *
 rw [Nat.mul_mod, h1, h2, ← Nat.mul_mod]
theorem Cg.add {a b c d : Nat} (h1 : Cg a b) (h2 : Cg c d) : Cg (a + c) (b + d) := by
 unfold Cg at *
 rw [Nat.add_mod, h1, h2, ← Nat.add_mod]
theorem Cg.pow {a b : Nat} (h1 : Cg a b) (n : Nat) : Cg (a ^ n) (b ^ n) := by
 induction n with
 | zero => exact Cg.rfl'
 | succ n ih => rw [Nat.pow_succ, Nat.pow_succ]; exact ih.mul h1
theorem Cg.mod (a : Nat) : Cg (a % RR) a := Nat.mod_mod _ _
theorem Cg.lt {a b : Nat} (h : Cg a b) (ha : a < RR) : a = b % RR := by
 unfold Cg at h
 rw [← h, Nat.mod_eq_of_lt ha]
theorem zB2 {N : Nat} (hN : 10 < N) (a : Fr) (ha : fv a < RR) (e z : List UInt64) (he : e.length < 1000) : ∀ (i n : Nat) (x : Fr), i < n -> i <= 64 * e.length -> fv x < RR -> Cg (fv x) (fv a ^ (lv e / 2 ^ i)) ->
  zoG N n e ((i : Int) - 1) a.l z x.l = some (frN (fv a ^ lv e % RR), ()) := by
 intro i
 induction i with
 | zero =>
  intro n x hn hi hx hx2
  obtain ⟨n, rfl⟩ : ∃ m, n = m + 1 := ⟨n - 1, by omega⟩
  rw [ziu]
  unfold zoF
  rw [zaF (by omega), cond_false, show Fr.of? x.l = some x from rfl, show List.length x.l = 4 from rfl, show Nat.beq 4 4 = true from rfl]
  simp only [mst2, bsm]
  rw [Nat.pow_zero, Nat.div_one] at hx2
  have : x = frN (fv a ^ lv e % RR) := ziy (hx2.lt hx)
  rw [← this]
 | succ i ih =>
  intro n x hn hi hx hx2
  obtain ⟨n, rfl⟩ : ∃ m, n = m + 1 := ⟨n - 1, by omega⟩
  have hpb := zyW (fv a) (lv e) i 0
  obtain ⟨b, h1, h2⟩ := zyM (N := N) (a := e) (i := i) (by omega)
  have hy2 : Cg (fv (frN (fv x * fv x % RR))) (fv a ^ (lv e / 2 ^ (i + 1)) * fv a ^ (lv e / 2 ^ (i + 1))) := by rw [zhh]; exact (Cg.mod _).trans (hx2.mul hx2)
  rw [ziu]
  unfold zoF
  rw [show ((i + 1 : Nat) : Int) - 1 = (i : Int) by omega, zas, cond_true, show Fr.of? x.l = some x from rfl, show Fr.of? a.l = some a from rfl, zec (by omega) (by omega)]
  simp only [bsm]
  rw [zsw hN hx]
  simp only [bsm]
  rw [h1]
  simp only [bsm]
  have hbb : (b == 1) = decide (lv e / 2 ^ i % 2 = 1) := by
   rw [Bool.eq_iff_iff, beq_iff_eq, decide_eq_true_iff, ← h2, ← UInt64.toNat_inj]
   rfl
  rw [hbb]
  by_cases hb : lv e / 2 ^ i % 2 = 1
  ·rw [decide_eq_true hb, cond_true, zsw hN ha]
   simp only [bsm]
   rw [if_pos hb] at hpb
   refine ih n _ (by omega) (by omega) (by rw [zhh]; exact zdw _) ?_
   rw [zhh, ← hpb]
   exact (Cg.mod _).trans (hy2.mul Cg.rfl')
  ·rw [decide_eq_false hb, cond_false]
   rw [if_neg hb, Nat.mul_one] at hpb
   refine ih n _ (by omega) (by omega) (by rw [zhh]; exact zdw _) ?_
   rw [hpb] at hy2
   exact hy2
theorem zB3 {N : Nat} {a : Fr} {e : List UInt64} (ha : fv a < RR) (he : 64 * e.length + 100 < N) (he2 : e.length < 1000) : q73 N a e = some (frN (fv a ^ lv e % RR), ()) := by
 unfold q73
 rw [show q173 N 1 = some ((⟨1, 0, 0, 0⟩ : Fr), ()) from rfl]
 simp only [bsm]
 rw [show wr (64 * (e.length : Int)) = ((64 * e.length : Nat) : Int) by rw [zec (by omega) (by omega)]; omega, zec (by omega) (by omega)]
 have hlt : lv e / 2 ^ (64 * e.length) = 0 := by
  apply Nat.div_eq_of_lt
  have := zhM e
  rw [Nat.pow_mul]
  exact this
 exact zB2 (by omega) a ha e [0, 0, 0, 0] he2 (64 * e.length) N ⟨1, 0, 0, 0⟩ (by omega) (Nat.le_refl _) (by rw [zjJ]; decide) (by rw [hlt, Nat.pow_zero, zjJ]; exact Cg.rfl')
end
section
def nd (q : Nat) : Nat -> Nat -> Bool
 | 0, lo => !(Nat.beq (q % lo) 0)
 | k + 1, lo => nd q k lo && nd q k (lo + 2 ^ k)
end
section
theorem zad (x : Fr) : Fr.mk x.a0 x.a1 x.a2 x.a3 = x := rfl
theorem zaf : Fr.mk 0 0 0 0 = Fr.zero := rfl
def eqF (x y : Fr) : Bool := decide (x = y)
theorem zvd (x : Fr) : eqF x x = true := decide_eq_true rfl
theorem zve {x y : Fr} (h : x = y) : eqF x y = true := decide_eq_true h
theorem zsC {x y : Fr} (h : x ≠ y) : eqF x y = false := decide_eq_false h
theorem zag (x y : Fr) : eqL El.u64 [x.a0, x.a1, x.a2, x.a3] [y.a0, y.a1, y.a2, y.a3] = eqF x y := zkJ x y
theorem zah (x : Fr) (n : UInt64) : eqL El.u64 [x.a0, x.a1, x.a2, x.a3] [n, (0 : UInt64), (0 : UInt64), (0 : UInt64)] = eqF x ⟨n, 0, 0, 0⟩ := zkJ x ⟨n, 0, 0, 0⟩
def zEp (log : Nat) : Nat := 7 ^ ((RR - 1) / 2 ^ log) % RR
theorem zB4 (N : Nat) (n : UInt64) : q75 N n = some ((⟨n, 0, 0, 0⟩ : Fr), ()) := rfl
theorem zjK (N : Nat) (n : UInt64) : q173 N n = some ((⟨n, 0, 0, 0⟩ : Fr), ()) := rfl
class Big (N : Nat) : Prop where
 h : 2000 <= N
instance : Big 2000 := ⟨Nat.le_refl _⟩
end
section
def q193 (N : Nat) (a0 : Fr) : Option (Fr × Unit) :=
 Option.bind (q76 N (a0) (a0)) fun rr0 => Option.bind (q76 N (rr0.1) (rr0.1)) fun rr1 => Option.bind (q76 N (rr1.1) (a0)) fun rr2 => some ((rr2.1, ()))
theorem zB5 : p193 = q193 := by
 (repeat (apply funext; intro _))
 simp only [p193, q193, zyz, zad, zag, zah, zaf]
def q195 (N : Nat) (at0 : Int) (w1 : List Int) : Option (Row × Unit) :=
 must (leI (↑(3 : Nat) : Int) (↑w1.length : Int)) (must (leN ((0 : Nat) + (3 : Nat)) w1.length) (Option.bind (q75 N (1 : UInt64)) fun rr0 => cond (eqI at0 (↑(0 : Nat) : Int)) (must (eqI at0 (↑(0 : Nat) : Int)) (some ((Row.mk (rr0.1) (Fr.zero) (Fr.zero) (Fr.zero) (Fr.zero) (Fr.zero) (Fr.zero) (Fr.zero) (List.getD w1 (0 : Nat) (0 : Int)) (List.getD w1 ((0 : Nat) + (1 : Nat)) (0 : Int)) (List.getD w1 ((0 : Nat) + (1 : Nat) + (1 : Nat)) (0 : Int)), ())))) (cond (eqI at0 (↑((0 : Nat) + (1 : Nat)) : Int)) (must (eqI at0 (↑((0 : Nat) + (1 : Nat)) : Int)) (some ((Row.mk (Fr.zero) (rr0.1) (Fr.zero) (Fr.zero) (Fr.zero) (Fr.zero) (Fr.zero) (Fr.zero) (List.getD w1 (0 : Nat) (0 : Int)) (List.getD w1 ((0 : Nat) + (1 : Nat)) (0 : Int)) (List.getD w1 ((0 : Nat) + (1 : Nat) + (1 : Nat)) (0 : Int)), ())))) (cond (eqI at0 (↑((0 : Nat) + (1 : Nat) + (1 : Nat)) : Int)) (must (eqI at0 (↑((0 : Nat) + (1 : Nat) + (1 : Nat)) : Int)) (some ((Row.mk (Fr.zero) (Fr.zero) (rr0.1) (Fr.zero) (Fr.zero) (Fr.zero) (Fr.zero) (Fr.zero) (List.getD w1 (0 : Nat) (0 : Int)) (List.getD w1 ((0 : Nat) + (1 : Nat)) (0 : Int)) (List.getD w1 ((0 : Nat) + (1 : Nat) + (1 : Nat)) (0 : Int)), ())))) (cond (eqI at0 (↑((0 : Nat) + (1 : Nat) + (1 : Nat) + (1 : Nat)) : Int)) (must (eqI at0 (↑((0 : Nat) + (1 : Nat) + (1 : Nat) + (1 : Nat)) : Int)) (some ((Row.mk (Fr.zero) (Fr.zero) (Fr.zero) (rr0.1) (Fr.zero) (Fr.zero) (Fr.zero) (Fr.zero) (List.getD w1 (0 : Nat) (0 : Int)) (List.getD w1 ((0 : Nat) + (1 : Nat)) (0 : Int)) (List.getD w1 ((0 : Nat) + (1 : Nat) + (1 : Nat)) (0 : Int)), ())))) (cond (eqI at0 (↑((0 : Nat) + (1 : Nat) + (1 : Nat) + (1 : Nat) + (1 : Nat)) : Int)) (must (eqI at0 (↑((0 : Nat) + (1 : Nat) + (1 : Nat) + (1 : Nat) + (1 : Nat)) : Int)) (some ((Row.mk (Fr.zero) (Fr.zero) (Fr.zero) (Fr.zero) (rr0.1) (Fr.zero) (Fr.zero) (Fr.zero) (List.getD w1 (0 : Nat) (0 : Int)) (List.getD w1 ((0 : Nat) + (1 : Nat)) (0 : Int)) (List.getD w1 ((0 : Nat) + (1 : Nat) + (1 : Nat)) (0 : Int)), ())))) (cond (eqI at0 (↑((0 : Nat) + (1 : Nat) + (1 : Nat) + (1 : Nat) + (1 : Nat) + (1 : Nat)) : Int)) (must (eqI at0 (↑((0 : Nat) + (1 : Nat) + (1 : Nat) + (1 : Nat) + (1 : Nat) + (1 : Nat)) : Int)) (some ((Row.mk (Fr.zero) (Fr.zero) (Fr.zero) (Fr.zero) (Fr.zero) (rr0.1) (Fr.zero) (Fr.zero) (List.getD w1 (0 : Nat) (0 : Int)) (List.getD w1 ((0 : Nat) + (1 : Nat)) (0 : Int)) (List.getD w1 ((0 : Nat) + (1 : Nat) + (1 : Nat)) (0 : Int)), ())))) (cond (eqI at0 (↑((0 : Nat) + (1 : Nat) + (1 : Nat) + (1 : Nat) + (1 : Nat) + (1 : Nat) + (1 : Nat)) : Int)) (must (eqI at0 (↑((0 : Nat) + (1 : Nat) + (1 : Nat) + (1 : Nat) + (1 : Nat) + (1 : Nat) + (1 : Nat)) : Int)) (some ((Row.mk (Fr.zero) (Fr.zero) (Fr.zero) (Fr.zero) (Fr.zero) (Fr.zero) (rr0.1) (Fr.zero) (List.getD w1 (0 : Nat) (0 : Int)) (List.getD w1 ((0 : Nat) + (1 : Nat)) (0 : Int)) (List.getD w1 ((0 : Nat) + (1 : Nat) + (1 : Nat)) (0 : Int)), ())))) (must (eqI at0 (↑((0 : Nat) + (1 : Nat) + (1 : Nat) + (1 : Nat) + (1 : Nat) + (1 : Nat) + (1 : Nat) + (1 : Nat)) : Int)) (must (eqI at0 (↑((0 : Nat) + (1 : Nat) + (1 : Nat) + (1 : Nat) + (1 : Nat) + (1 : Nat) + (1 : Nat) + (1 : Nat)) : Int)) (some ((Row.mk (Fr.zero) (Fr.zero) (Fr.zero) (Fr.zero) (Fr.zero) (Fr.zero) (Fr.zero) (rr0.1) (List.getD w1 (0 : Nat) (0 : Int)) (List.getD w1 ((0 : Nat) + (1 : Nat)) (0 : Int)) (List.getD w1 ((0 : Nat) + (1 : Nat) + (1 : Nat)) (0 : Int)), ())))))))))))))
theorem zB6 : p195 = q195 := by
 (repeat (apply funext; intro _))
 simp only [p195, q195, zBJ, zad, zag, zah, zaf]
def ziz (N : Nat) (A_4 : (List Fr) -> Int -> (List Fr) -> Fr -> Fr -> Option (Fr × Unit)) (t37 : List Fr) (t38 : Int) (ob0 : List Fr) (ob1 ob2 : Fr) : Option (Fr × Unit) :=
 cond ((ltI t38 (8 : Int))) (must (leI (0 : Int) t38 && (ltI t38 (↑(8 : Nat) : Int) && ltI t38 (↑t37.length : Int))) (must (leI (0 : Int) t38 && ltI t38 (↑(8 : Nat) : Int)) (Option.bind (q76 N ((List.getD ob0 t38.toNat (Fr.zero))) ((List.getD t37 t38.toNat (Fr.zero)))) fun rr0 => Option.bind (q80 N (ob2) (rr0.1)) fun rr1 => A_4 t37 ((wr (t38 + (1 : Int)))) ob0 (ob1) (rr1.1)))) (some ((ob2, ())))
theorem zvf : zqX = ziz := by
 (repeat (apply funext; intro _))
 simp only [zqX, ziz, hide_eq, zyz, zyI, zad, zag, zah, zaf]
def ziA (N n : Nat) (t37 : List Fr) (t38 : Int) (ob0 : List Fr) (ob1 ob2 : Fr) : Option (Fr × Unit) :=
 zan (fun A x => ziz N (fun t37 t38 ob0 ob1 ob2 => A (((), ((), ((), (t37, (t38, ()))))), (ob0, (ob1, (ob2, ()))))) x.1.2.2.2.1 x.1.2.2.2.2.1 x.2.1 x.2.2.1 x.2.2.2.1) n (((), ((), ((), (t37, (t38, ()))))), (ob0, (ob1, (ob2, ()))))
theorem zvg : zqY = ziA := by
 (repeat (apply funext; intro _))
 simp only [zqY, ziA, zvf, zad, zag, zah, zaf]
theorem zhi (N n : Nat) (t37 : List Fr) (t38 : Int) (ob0 : List Fr) (ob1 ob2 : Fr) : ziA N (n + 1) t37 t38 ob0 ob1 ob2 = ziz N (ziA N n) t37 t38 ob0 ob1 ob2 := rfl
def q106 (N : Nat) (q0 : List Fr) (a1 b2 c3 next4 : Fr) : Option (Fr × Unit) :=
 must (Nat.beq q0.length (8 : Nat)) (Option.bind (q76 N (a1) (b2)) fun rr0 => Option.bind (q75 N (1 : UInt64)) fun rr1 => Option.bind (q76 N (a1) (a1)) fun rr2 => Option.bind (q82 N (rr2.1) (a1)) fun rr3 => Option.bind (q193 N (a1)) fun rr4 => Option.bind (q82 N (rr4.1) (c3)) fun rr5 => Option.bind (q80 N (a1) (b2)) fun rr6 => Option.bind (q82 N (rr6.1) (next4)) fun rr7 => ziA N N ([rr0.1, a1, b2, c3, rr1.1, rr3.1, rr5.1, rr7.1]) (0 : Int) q0 (Fr.zero) (Fr.zero))
theorem zB7 : p106 = q106 := by
 (repeat (apply funext; intro _))
 simp only [p106, q106, zvg, zB5, zBJ, zyz, zyI, zBM, zad, zag, zah, zaf]
def q108 (N : Nat) (s0 : Stp) : Option (List Row × Int × Unit) :=
 cond ((eqI s0.kind (1 : Int))) (cond ((eqI s0.kind (1 : Int))) (some (([], (0 : Int), ()))) (cond ((eqI s0.kind (2 : Int))) (some (([Row.mk (s0.q0) (s0.q1) (s0.q2) (s0.q3) (s0.q4) (Fr.zero) (Fr.zero) (Fr.zero) (mxI s0.v0 (-1 : Int)) (mxI s0.v1 (-1 : Int)) (mxI s0.v2 (-1 : Int))], (0 : Int), ()))) (cond ((eqI s0.kind (3 : Int))) (Option.bind (q195 N (5 : Int) ([Stp.v0 s0, (-1 : Int), (-1 : Int)])) fun rr7 => some (([rr7.1], (0 : Int), ()))) (cond ((eqI s0.kind (4 : Int))) (Option.bind (q195 N (6 : Int) ([Stp.v0 s0, (-1 : Int), Stp.v2 s0])) fun rr6 => some (([rr6.1], (0 : Int), ()))) (cond ((eqI s0.kind (5 : Int))) (Option.bind (q195 N (7 : Int) ([Stp.v0 s0, Stp.v1 s0, (-1 : Int)])) fun rr5 => some (([rr5.1, Row.mk (Fr.zero) (Fr.zero) (Fr.zero) (Fr.zero) (Fr.zero) (Fr.zero) (Fr.zero) (Fr.zero) s0.v2 (-1 : Int) (-1 : Int)], (0 : Int), ()))) (cond ((eqI s0.kind (7 : Int))) (Option.bind (q195 N (1 : Int) ([Stp.v0 s0, (-1 : Int), (-1 : Int)])) fun rr4 => some (([rr4.1], (0 : Int), ()))) (some (([], (11 : Int), ()))))))))) (cond ((eqI s0.kind (6 : Int))) (some (([], (0 : Int), ()))) (cond ((eqI s0.kind (2 : Int))) (some (([Row.mk (s0.q0) (s0.q1) (s0.q2) (s0.q3) (s0.q4) (Fr.zero) (Fr.zero) (Fr.zero) (mxI s0.v0 (-1 : Int)) (mxI s0.v1 (-1 : Int)) (mxI s0.v2 (-1 : Int))], (0 : Int), ()))) (cond ((eqI s0.kind (3 : Int))) (Option.bind (q195 N (5 : Int) ([Stp.v0 s0, (-1 : Int), (-1 : Int)])) fun rr3 => some (([rr3.1], (0 : Int), ()))) (cond ((eqI s0.kind (4 : Int))) (Option.bind (q195 N (6 : Int) ([Stp.v0 s0, (-1 : Int), Stp.v2 s0])) fun rr2 => some (([rr2.1], (0 : Int), ()))) (cond ((eqI s0.kind (5 : Int))) (Option.bind (q195 N (7 : Int) ([Stp.v0 s0, Stp.v1 s0, (-1 : Int)])) fun rr1 => some (([rr1.1, Row.mk (Fr.zero) (Fr.zero) (Fr.zero) (Fr.zero) (Fr.zero) (Fr.zero) (Fr.zero) (Fr.zero) s0.v2 (-1 : Int) (-1 : Int)], (0 : Int), ()))) (cond ((eqI s0.kind (7 : Int))) (Option.bind (q195 N (1 : Int) ([Stp.v0 s0, (-1 : Int), (-1 : Int)])) fun rr0 => some (([rr0.1], (0 : Int), ()))) (some (([], (11 : Int), ())))))))))
theorem zB8 : p108 = q108 := by
 (repeat (apply funext; intro _))
 simp only [p108, q108, hide_eq, zB6, zad, zag, zah, zaf]
def q190 (N : Nat) (a0 b1 : Fr) : Option (Fr × Unit) :=
 Option.bind (q94 N (a0) (b1)) fun rr0 => some ((rr0.1, ()))
theorem zwI : p190 = q190 := by
 (repeat (apply funext; intro _))
 simp only [p190, q190, zyD, zad, zag, zah, zaf]
def q194 (N : Nat) (a0 b1 : Fr) : Option (Fr × Unit) :=
 Option.bind (q81 N (a0) (b1)) fun rr0 => some ((rr0.1, ()))
theorem zsD : p194 = q194 := by
 (repeat (apply funext; intro _))
 simp only [p194, q194, zyJ, zad, zag, zah, zaf]
def ziB (N : Nat) (A_5 : Int -> (List Fr) -> Fr -> (List Fr) -> Fr -> Option (Fr × Unit)) (i14 : Int) (ob0 : List Fr) (ob1 : Fr) (ob2 : List Fr) (ob3 : Fr) : Option (Fr × Unit) :=
 cond ((ltI i14 (8 : Int))) (must (leI (0 : Int) i14 && ltI i14 (↑(8 : Nat) : Int)) (must (leI (0 : Int) i14 && ltI i14 (↑(8 : Nat) : Int)) (Option.bind (q190 N ((List.getD ob0 i14.toNat (Fr.zero))) ((List.getD ob2 i14.toNat (Fr.zero)))) fun rr0 => Option.bind (q194 N (ob3) (rr0.1)) fun rr1 => A_5 ((wr (i14 + (1 : Int)))) ob0 (ob1) ob2 (rr1.1)))) (some ((ob3, ())))
theorem zvh : zq4 = ziB := by
 (repeat (apply funext; intro _))
 simp only [zq4, ziB, hide_eq, zwI, zsD, zad, zag, zah, zaf]
def ziC (N n : Nat) (i14 : Int) (ob0 : List Fr) (ob1 : Fr) (ob2 : List Fr) (ob3 : Fr) : Option (Fr × Unit) :=
 zan (fun A x => ziB N (fun i14 ob0 ob1 ob2 ob3 => A (((), ((), ((), ((), (i14, ()))))), (ob0, (ob1, (ob2, (ob3, ())))))) x.1.2.2.2.2.1 x.2.1 x.2.2.1 x.2.2.2.1 x.2.2.2.2.1) n (((), ((), ((), ((), (i14, ()))))), (ob0, (ob1, (ob2, (ob3, ())))))
theorem zvi : zq5 = ziC := by
 (repeat (apply funext; intro _))
 simp only [zq5, ziC, zvh, zad, zag, zah, zaf]
theorem zhj (N n : Nat) (i14 : Int) (ob0 : List Fr) (ob1 : Fr) (ob2 : List Fr) (ob3 : Fr) : ziC N (n + 1) i14 ob0 ob1 ob2 ob3 = ziB N (ziC N n) i14 ob0 ob1 ob2 ob3 := rfl
def q107 (N : Nat) (q0 : List Fr) (a1 b2 c3 next4 : Fr) : Option (Fr × Unit) :=
 must (Nat.beq q0.length (8 : Nat)) (Option.bind (q190 N (a1) (a1)) fun rr0 => Option.bind (q190 N (a1) (b2)) fun rr1 => Option.bind (q173 N (1 : UInt64)) fun rr2 => Option.bind (q83 N (rr0.1) (a1)) fun rr3 => Option.bind (q190 N (rr0.1) (rr0.1)) fun rr4 => Option.bind (q190 N (rr4.1) (a1)) fun rr5 => Option.bind (q83 N (rr5.1) (c3)) fun rr6 => Option.bind (q194 N (a1) (b2)) fun rr7 => Option.bind (q83 N (rr7.1) (next4)) fun rr8 => ziC N N (0 : Int) q0 (Fr.zero) ([rr1.1, a1, b2, c3, rr2.1, rr3.1, rr6.1, rr8.1]) (Fr.zero))
theorem zB9 : p107 = q107 := by
 (repeat (apply funext; intro _))
 simp only [p107, q107, zvi, zkF, zwI, zsD, zBQ, zad, zag, zah, zaf]
end
section
def Sc (x : Fr) : Prop := fv x < RR
def fmul (x y : Fr) : Fr := frN (fv x * fv y % RR)
def fadd (x y : Fr) : Fr := frN ((fv x + fv y) % RR)
def fsub (x y : Fr) : Fr := frN ((fv x + (RR - fv y)) % RR)
theorem zsE (n : Nat) : Sc (frN (n % RR)) := by unfold Sc; rw [zhh]; exact zdw _
theorem zdX (x y : Fr) : Sc (fmul x y) := zsE _
theorem zkK (x y : Fr) : Sc (fadd x y) := zsE _
theorem zsF (x y : Fr) : Sc (fsub x y) := zsE _
theorem zaC : Sc Fr.zero := by unfold Sc; decide +kernel
theorem zCa : Sc ⟨1, 0, 0, 0⟩ := by unfold Sc; decide +kernel
theorem mulF {N : Nat} (hN : 10 < N) {a b : Fr} (ha : Sc a) : q76 N a b = some (fmul a b, ()) := zyV hN ha
theorem mulR {N : Nat} (hN : 10 < N) {a b : Fr} (hb : Sc b) : q94 N a b = some (fmul a b, ()) := zsw hN hb
theorem addF {N : Nat} (hN : 10 < N) {a b : Fr} (ha : Sc a) (hb : Sc b) : q80 N a b = some (fadd a b, ()) := zBZ hN ha hb
theorem addR {N : Nat} (hN : 10 < N) {a b : Fr} (ha : Sc a) (hb : Sc b) : q81 N a b = some (fadd a b, ()) := zB0 hN ha hb
theorem subF {N : Nat} (hN : 10 < N) {a b : Fr} (ha : Sc a) (hb : Sc b) : q82 N a b = some (fsub a b, ()) := zwE hN ha hb
theorem subR {N : Nat} (hN : 10 < N) {a b : Fr} (ha : Sc a) (hb : Sc b) : q83 N a b = some (fsub a b, ()) := zwF hN ha hb
theorem zhk {N : Nat} (hN : 10 < N) {a b : Fr} (hb : Sc b) : q190 N a b = some (fmul a b, ()) := by
 unfold q190
 rw [mulR hN hb]
 simp only [bsm]
theorem zmF {N : Nat} (hN : 10 < N) {a b : Fr} (ha : Sc a) (hb : Sc b) : q194 N a b = some (fadd a b, ()) := by
 unfold q194
 rw [addR hN ha hb]
 simp only [bsm]
def vsum (q t : List Fr) : Nat -> Nat -> Fr -> Fr
 | 0, _, s => s
 | k + 1, i, s => vsum q t k (i + 1) (fadd s (fmul (q.getD i Fr.zero) (t.getD i Fr.zero)))
theorem zyX (N : Nat) (hN : 10 < N) (q t : List Fr) (z : Fr) (hq : q.length = 8) (ht : t.length = 8) (hs : ∀ i, Sc (q.getD i Fr.zero)) : ∀ (k n i : Nat) (s : Fr), i + k = 8 -> k < n -> Sc s -> ziA N n t (i : Int) q z s = some (vsum q t k i s, ()) := by
 intro k
 induction k with
 | zero =>
  intro n i s hi hn hss
  obtain ⟨n, rfl⟩ : ∃ m, n = m + 1 := ⟨n - 1, by omega⟩
  rw [zhi]
  unfold ziz
  rw [zaa (by omega), cond_false]
  rfl
 | succ k ih =>
  intro n i s hi hn hss
  obtain ⟨n, rfl⟩ : ∃ m, n = m + 1 := ⟨n - 1, by omega⟩
  rw [zhi]
  unfold ziz
  rw [zab (show (i : Int) < 8 by omega), cond_true, zas, ht, zab (show (i : Int) < ((8 : Nat) : Int) by omega), Bool.and_self, Bool.and_self, mst2, mst2, Int.toNat_natCast, mulF hN (hs i)]
  simp only [bsm]
  rw [addF hN hss (zdX _ _), zar (by omega)]
  exact ih n (i + 1) _ (by omega) (by omega) (zkK _ _)
theorem zyY (N : Nat) (hN : 10 < N) (q t : List Fr) (z : Fr) (hq : q.length = 8) (ht : t.length = 8) (hs : ∀ i, Sc (t.getD i Fr.zero)) : ∀ (k n i : Nat) (s : Fr), i + k = 8 -> k < n -> Sc s -> ziC N n (i : Int) q z t s = some (vsum q t k i s, ()) := by
 intro k
 induction k with
 | zero =>
  intro n i s hi hn hss
  obtain ⟨n, rfl⟩ : ∃ m, n = m + 1 := ⟨n - 1, by omega⟩
  rw [zhj]
  unfold ziB
  rw [zaa (by omega), cond_false]
  rfl
 | succ k ih =>
  intro n i s hi hn hss
  obtain ⟨n, rfl⟩ : ∃ m, n = m + 1 := ⟨n - 1, by omega⟩
  rw [zhj]
  unfold ziB
  rw [zab (show (i : Int) < 8 by omega), cond_true, zas, zab (show (i : Int) < ((8 : Nat) : Int) by omega), Bool.and_self, mst2, mst2, Int.toNat_natCast, zhk hN (hs i)]
  simp only [bsm]
  rw [zmF hN hss (zdX _ _), zar (by omega)]
  exact ih n (i + 1) _ (by omega) (by omega) (zkK _ _)
def wl (a b c nx : Fr) : List Fr := [fmul a b, a, b, c, ⟨1, 0, 0, 0⟩, fsub (fmul a a) a, fsub (fmul (fmul (fmul a a) (fmul a a)) a) c, fsub (fadd a b) nx]
def gval (q : List Fr) (a b c nx : Fr) : Fr := vsum q (wl a b c nx) 8 0 Fr.zero
theorem zEq {a b c nx : Fr} (ha : Sc a) (hb : Sc b) (hc : Sc c) : ∀ i, Sc ((wl a b c nx).getD i Fr.zero) := by
 intro i
 match i with
 | 0 => exact zdX _ _
 | 1 => exact ha
 | 2 => exact hb
 | 3 => exact hc
 | 4 => exact zCa
 | 5 => exact zsF _ _
 | 6 => exact zsF _ _
 | 7 => exact zsF _ _
 | n + 8 => exact zaC
theorem zyZ {N : Nat} (hN : 10 < N) {a : Fr} (ha : Sc a) : q193 N a = some (fmul (fmul (fmul a a) (fmul a a)) a, ()) := by
 unfold q193
 rw [mulF hN ha]
 simp only [bsm]
 rw [mulF hN (zdX _ _)]
 simp only [bsm]
 rw [mulF hN (zdX _ _)]
 simp only [bsm]
theorem zy0 {N : Nat} (hN : 10 < N) {q : List Fr} {a b c nx : Fr} (hq : q.length = 8) (hs : ∀ i, Sc (q.getD i Fr.zero)) (ha : Sc a) (hb : Sc b) (hc : Sc c) (hn : Sc nx) : q106 N q a b c nx = some (gval q a b c nx, ()) := by
 unfold q106
 rw [hq, show Nat.beq 8 8 = true from rfl, mst2, mulF hN ha, zB4, mulF hN ha]
 simp only [bsm]
 rw [subF hN (zdX _ _) ha, zyZ hN ha]
 simp only [bsm]
 rw [subF hN (zdX _ _) hc, addF hN ha hb]
 simp only [bsm]
 rw [subF hN (zkK _ _) hn]
 simp only [bsm]
 exact zyX N hN q (wl a b c nx) Fr.zero hq rfl hs 8 N 0 Fr.zero rfl (by omega) zaC
theorem zy1 {N : Nat} (hN : 10 < N) {q : List Fr} {a b c nx : Fr} (hq : q.length = 8) (ha : Sc a) (hb : Sc b) (hc : Sc c) (hn : Sc nx) : q107 N q a b c nx = some (gval q a b c nx, ()) := by
 unfold q107
 rw [hq, show Nat.beq 8 8 = true from rfl, mst2, zhk hN ha, zhk hN hb, zjK]
 simp only [bsm]
 rw [subR hN (zdX _ _) ha, zhk hN (zdX _ _)]
 simp only [bsm]
 rw [zhk hN ha]
 simp only [bsm]
 rw [subR hN (zdX _ _) hc, zmF hN ha hb]
 simp only [bsm]
 rw [subR hN (zkK _ _) hn]
 simp only [bsm]
 exact zyY N hN q (wl a b c nx) Fr.zero hq rfl (zEq ha hb hc) 8 N 0 Fr.zero rfl (by omega) zaC
theorem zy2 (q t : List Fr) : ∀ (k i : Nat) (s : Fr), Sc s -> Sc (vsum q t k i s) := by
 intro k
 induction k with
 | zero => intro i s h; exact h
 | succ k ih => intro i s h; exact ih (i + 1) _ (zkK _ _)
theorem zsG (q : List Fr) (a b c nx : Fr) : Sc (gval q a b c nx) := zy2 _ _ _ _ _ zaC
end
section
def zoP (N : Nat) (A_4 : (List Fr) -> (List Fr) -> Int -> Option (Bool × Unit)) (a0 b1 : List Fr) (i5 : Int) : Option (Bool × Unit) :=
 cond ((ltI i5 (↑a0.length : Int))) (must (leI (0 : Int) i5 && ltI i5 (↑a0.length : Int)) (must (leI (0 : Int) i5 && ltI i5 (↑b1.length : Int)) (cond (!eqF (List.getD a0 i5.toNat (Fr.zero)) (List.getD b1 i5.toNat (Fr.zero))) (some ((false, ()))) (A_4 a0 b1 ((wr (i5 + (1 : Int)))))))) (some ((true, ())))
theorem zy3 : zya = zoP := by
 (repeat (apply funext; intro _))
 simp only [zya, zoP, hide_eq, zad, zag, zah, zaf]
def zoQ (N n : Nat) (a0 b1 : List Fr) (i5 : Int) : Option (Bool × Unit) :=
 zan (fun A x => zoP N (fun a0 b1 i5 => A ((a0, (b1, (i5, ()))), ())) x.1.1 x.1.2.1 x.1.2.2.1) n ((a0, (b1, (i5, ()))), ())
theorem zy4 : zyb = zoQ := by
 (repeat (apply funext; intro _))
 simp only [zyb, zoQ, zy3, zad, zag, zah, zaf]
theorem ziD (N n : Nat) (a0 b1 : List Fr) (i5 : Int) : zoQ N (n + 1) a0 b1 i5 = zoP N (zoQ N n) a0 b1 i5 := rfl
def q93 (N : Nat) (a0 b1 : List Fr) : Option (Bool × Unit) :=
 cond (!eqI (↑a0.length : Int) (↑b1.length : Int)) (some ((false, ()))) (zoQ N N a0 b1 (0 : Int))
theorem zCb : p93 = q93 := by
 (repeat (apply funext; intro _))
 simp only [p93, q93, hide_eq, zy4, zad, zag, zah, zaf]
end
section
theorem sh1 {L : Nat} (h : L <= 6) : shlI 1 (UInt64.toNat (u64I (L : Int))) = ((2 ^ L : Nat) : Int) := by
 have : ∀ k : Fin 7, shlI 1 (UInt64.toNat (u64I (k.val : Int))) = ((2 ^ k.val : Nat) : Int) := by decide +kernel
 exact this ⟨L, by omega⟩
theorem sh1' {L : Nat} (h : L <= 6) : shlI 1 (UInt64.toNat (UInt64.ofNat (Int.toNat (L : Int)))) = ((2 ^ L : Nat) : Int) := by
 have : ∀ k : Fin 7, shlI 1 (UInt64.toNat (UInt64.ofNat (Int.toNat (k.val : Int)))) = ((2 ^ k.val : Nat) : Int) := by decide +kernel
 exact this ⟨L, by omega⟩
theorem sh3' {L : Nat} (h : L <= 6) : shlI 3 (UInt64.toNat (UInt64.ofNat (Int.toNat (L : Int)))) = ((3 * 2 ^ L : Nat) : Int) := by
 have : ∀ k : Fin 7, shlI 3 (UInt64.toNat (UInt64.ofNat (Int.toNat (k.val : Int)))) = ((3 * 2 ^ k.val : Nat) : Int) := by decide +kernel
 exact this ⟨L, by omega⟩
theorem zaZ {L : Nat} (h : L <= 6) : 2 ^ L <= 64 := Nat.pow_le_pow_right (by decide) h
theorem zc8 (L : Nat) : 0 < 2 ^ L := Nat.pow_pos (by decide)
theorem zvj {x L : Nat} (h : L <= 6) : shrI (x : Int) L = ((x / 2 ^ L : Nat) : Int) := by
 unfold shrI
 rw [Nat.min_eq_left (by omega), Int.fdiv_eq_ediv_of_nonneg _ (Int.le_of_lt (Int.pow_pos (by decide)))]
 rfl
def nm (L x : Nat) : Fr := fmul (frN (7 ^ (x / 2 ^ L) % RR)) (frN (zEp L ^ (x % 2 ^ L) % RR))
def pre (l : List Fr) : Nat -> Nat
 | 0 => 1
 | i + 1 => pre l i * fv (l.getD i Fr.zero)
end
end Go.Proofs.Ytgimohchocjgcaa.V
