import Derived.Test.YtgimohchocjgcaaVFS
import Derived.KernelRfl
import Derived.Test.YtgimohchocjgcaaVUM
import Derived.Test.YtgimohchocjgcaaVLR
import Derived.Test.YtgimohchocjgcaaVK5
set_option linter.unusedVariables false
set_option linter.unusedSimpArgs false
namespace Go.Proofs.Ytgimohchocjgcaa.V
section
theorem alg5 (B A1 A2 A3 P x y c s d : Nat) (hv : A1 + A3 = A2 + P * c) (h3 : s + y + c = x + B * d) : A1 + P * s + (A3 + P * y) = A2 + P * x + P * B * d := by
  have e : P * (s + y + c) = P * (x + B * d) := by rw [h3]
  grind
theorem zt1 (N : Nat) (a b z m : List UInt64) (ha : a.length = 4) (hb : b.length = 4) (cc : UInt64) : ∀ (k n j : Nat) (c : UInt64) (t : List UInt64), j + k = 4 -> k < n -> t.length = 4 -> c.toNat <= 1 ->
    lv (t.take j) + lv (b.take j) = lv (a.take j) + 18446744073709551616 ^ j * c.toNat ->
    ∃ (c' : UInt64) (t' : List UInt64) (n' : Nat), t'.length = 4 /\ c'.toNat <= 1 /\ lv t' + lv b = lv a + 18446744073709551616 ^ 4 * c'.toNat /\ zkm N n c cc (j : Int) a b z m t = zkm N (n' + 1) c' cc 4 a b z m t' := by
  intro k
  induction k with
  | zero =>
    intro n j c t hj hn ht hc hv
    obtain ⟨n, rfl⟩ : ∃ m, n = m + 1 := ⟨n - 1, by omega⟩
    obtain rfl : j = 4 := by omega
    rw [List.take_of_length_le (l := t) (by omega), List.take_of_length_le (l := a) (by omega), List.take_of_length_le (l := b) (by omega)] at hv
    exact ⟨c, t, n, ht, hc, hv, rfl⟩
  | succ k ih =>
    intro n j c t hj hn ht hc hv
    obtain ⟨n, rfl⟩ : ∃ m, n = m + 1 := ⟨n - 1, by omega⟩
    obtain ⟨s, d, h1, h2, h3⟩ := zjj (x := a.getD j 0) (y := b.getD j 0) hc
    rw [zh4]
    unfold zn6
    rw [zad (show (j : Int) < 4 by omega), cond_true, zax (by omega)]
    simp only [zbb, zaz, Int.toNat_natCast]
    rw [zaw (by omega)]
    simp only [Bool.and_self, mst2, h1, bsm]
    refine ih n (j + 1) _ _ (by omega) (by omega) (by rw [zap]; exact ht) h2 ?_
    rw [zaH _ _ (by omega), zag a, zag b, Nat.pow_succ]
    exact alg5 _ _ _ _ _ _ _ _ _ _ hv h3
theorem zrG (N : Nat) (z m t0 : List UInt64) (hm : m.length = 4) : ∀ (k n j : Nat) (c : UInt64) (t : List UInt64), j + k = 4 -> k < n -> t.length = 4 -> c.toNat <= 1 -> (∀ p, j <= p -> t.getD p 0 = t0.getD p 0) ->
    lv (t.take j) + 18446744073709551616 ^ j * c.toNat = lv (t0.take j) + lv (m.take j) ->
    ∃ (c' : UInt64) (r : Fr), c'.toNat <= 1 /\ fv r + 18446744073709551616 ^ 4 * c'.toNat = lv (t0.take 4) + lv m /\ zh3 N n c (j : Int) z m t = some (r, ()) := by
  intro k
  induction k with
  | zero =>
    intro n j c t hj hn ht hc hp hv
    obtain ⟨n, rfl⟩ : ∃ m, n = m + 1 := ⟨n - 1, by omega⟩
    obtain rfl : j = 4 := by omega
    rw [List.take_of_length_le (l := t) (by omega), List.take_of_length_le (l := m) (by omega)] at hv
    obtain ⟨r, h1, h2⟩ := of4 ht
    refine ⟨c, r, hc, by rw [fv, h2]; exact hv, ?_⟩
    rw [zgK]
    unfold zh2
    rw [zab (by omega), cond_false, ht, h1]
    rfl
  | succ k ih =>
    intro n j c t hj hn ht hc hp hv
    obtain ⟨n, rfl⟩ : ∃ m, n = m + 1 := ⟨n - 1, by omega⟩
    obtain ⟨s, d, h1, h2, h3⟩ := zc1 (x := t.getD j 0) (y := m.getD j 0) hc
    rw [zgK]
    unfold zh2
    rw [zad (show (j : Int) < 4 by omega), cond_true, zax (by omega)]
    simp only [zbb, zaz, Int.toNat_natCast]
    rw [zaw (by omega)]
    simp only [Bool.and_self, mst2, h1, bsm]
    refine ih n (j + 1) _ _ (by omega) (by omega) (by rw [zap]; exact ht) h2 ?_ ?_
    . intro p h
      rw [zaD, if_neg (by omega)]
      exact hp p (by omega)
    . rw [zaH _ _ (by omega), zag t0, zag m, Nat.pow_succ, ← hp j (Nat.le_refl _)]
      exact zfN.alg4 _ _ _ _ _ _ _ _ _ _ hv h3
theorem zrH {a b : Nat} (ha : a < RR) (hb : b < RR) : (a + (RR - b)) % RR = if b <= a then a - b else a + RR - b := by
  split
  . rw [show a + (RR - b) = (a - b) + RR by omega, Nat.add_mod_right, Nat.mod_eq_of_lt (by omega)]
  . rw [Nat.mod_eq_of_lt (by omega)]; omega
theorem zvn {N : Nat} (hN : 10 < N) {a b : Fr} (ha : fv a < RR) (hb : fv b < RR) : q82 N a b = some (frN ((fv a + (RR - fv b)) % RR), ()) := by
  have hRR := zrC
  obtain ⟨c', t', n', h1, h2, h3, h4⟩ := zt1 N a.l b.l [0, 0, 0, 0] mL rfl rfl 0 4 N 0 0 [0, 0, 0, 0] rfl (by omega) rfl (by decide) (by simp [lv])
  have hq : q82 N a b = zkm N N 0 0 ((0 : Nat) : Int) a.l b.l [0, 0, 0, 0] mL [0, 0, 0, 0] := rfl
  have e1 : lv a.l = fv a := rfl
  have e2 : lv b.l = fv b := rfl
  rw [e1, e2] at h3
  have htl := zhs t'
  rw [h1] at htl
  rw [hq, h4, zh4]
  unfold zn6
  rw [zab (by omega), cond_false, h1, zrH ha hb]
  by_cases hc : c' = 0
  . rw [hc] at h3 ⊢
    rw [show UInt64.toNat 0 = 0 from rfl] at h3
    obtain ⟨r, g1, g2⟩ := of4 h1
    rw [beq_self_eq_true, cond_true, show Nat.beq 4 4 = true from rfl, g1]
    simp only [mst2, bsm]
    have hfr : fv r = lv t' := by rw [fv, g2]
    rw [if_pos (by omega)]
    have : r = frN (fv a - fv b) := zie (by omega)
    rw [← this]
  . have hc0 : c'.toNat = 1 := by
      have : c'.toNat ≠ 0 := fun h => hc (UInt64.toNat_inj.1 h)
      omega
    rw [hc0] at h3
    rw [beq_eq_false_iff_ne.2 hc, cond_false]
    obtain ⟨c2, r, g1, g2, g3⟩ := zrG N [0, 0, 0, 0] mL t' rfl 4 N 0 0 t' rfl (by omega) h1 (by decide) (fun _ _ => rfl) (by simp [lv])
    rw [List.take_of_length_le (by omega), zgR] at g2
    have hfr := zAl r
    rw [if_neg (by omega)]
    have : r = frN (fv a + RR - fv b) := zie (by omega)
    rw [← this]
    exact g3
theorem zrI (N : Nat) (a b : List UInt64) (ha : a.length = 4) (hb : b.length = 4) : ∀ (k n j : Nat) (c : UInt64) (t : List UInt64), j + k = 4 -> k < n -> t.length = 4 -> c.toNat <= 1 ->
    lv (t.take j) + lv (b.take j) = lv (a.take j) + 18446744073709551616 ^ j * c.toNat ->
    ∃ (c' : UInt64) (t' : List UInt64) (n' : Nat), t'.length = 4 /\ c'.toNat <= 1 /\ lv t' + lv b = lv a + 18446744073709551616 ^ 4 * c'.toNat /\ zfu N n a b mL c (j : Int) t = zfu N (n' + 1) a b mL c' 4 t' := by
  intro k
  induction k with
  | zero =>
    intro n j c t hj hn ht hc hv
    obtain ⟨n, rfl⟩ : ∃ m, n = m + 1 := ⟨n - 1, by omega⟩
    obtain rfl : j = 4 := by omega
    rw [List.take_of_length_le (l := t) (by omega), List.take_of_length_le (l := a) (by omega), List.take_of_length_le (l := b) (by omega)] at hv
    exact ⟨c, t, n, ht, hc, hv, rfl⟩
  | succ k ih =>
    intro n j c t hj hn ht hc hv
    obtain ⟨n, rfl⟩ : ∃ m, n = m + 1 := ⟨n - 1, by omega⟩
    obtain ⟨s, d, h1, h2, h3⟩ := zjj (x := a.getD j 0) (y := b.getD j 0) hc
    rw [zgP]
    unfold zid
    rw [show List.length mL = 4 from rfl, zad (show (j : Int) < ((4 : Nat) : Int) by omega), cond_true, zax (by omega)]
    simp only [zbb, zaz, Int.toNat_natCast]
    rw [zaw (show j < a.length by omega), zaw (show j < b.length by omega), zaw (show j < t.length by omega)]
    simp only [Bool.and_self, mst2, h1, bsm]
    refine ih n (j + 1) _ _ (by omega) (by omega) (by rw [zap]; exact ht) h2 ?_
    rw [zaH _ _ (by omega), zag a, zag b, Nat.pow_succ]
    exact alg5 _ _ _ _ _ _ _ _ _ _ hv h3
theorem zog (N : Nat) (t0 : List UInt64) : ∀ (k n j : Nat) (c : UInt64) (t : List UInt64), j + k = 4 -> k < n -> t.length = 4 -> c.toNat <= 1 -> (∀ p, j <= p -> t.getD p 0 = t0.getD p 0) ->
    lv (t.take j) + 18446744073709551616 ^ j * c.toNat = lv (t0.take j) + lv (mL.take j) ->
    ∃ (c' : UInt64) (r : List UInt64), c'.toNat <= 1 /\ r.length = 4 /\ lv r + 18446744073709551616 ^ 4 * c'.toNat = lv (t0.take 4) + RR /\ ze0 N n mL c (j : Int) t = some (r, ()) := by
  intro k
  induction k with
  | zero =>
    intro n j c t hj hn ht hc hp hv
    obtain ⟨n, rfl⟩ : ∃ m, n = m + 1 := ⟨n - 1, by omega⟩
    obtain rfl : j = 4 := by omega
    rw [List.take_of_length_le (l := t) (by omega), show List.take 4 mL = mL from rfl, zgR] at hv
    refine ⟨c, t, hc, ht, hv, ?_⟩
    rw [zft]
    unfold zeZ
    rw [show List.length mL = 4 from rfl, zab (by omega), cond_false]
  | succ k ih =>
    intro n j c t hj hn ht hc hp hv
    obtain ⟨n, rfl⟩ : ∃ m, n = m + 1 := ⟨n - 1, by omega⟩
    obtain ⟨s, d, h1, h2, h3⟩ := zc1 (x := t.getD j 0) (y := mL.getD j 0) hc
    rw [zft]
    unfold zeZ
    rw [show List.length mL = 4 from rfl, zad (show (j : Int) < ((4 : Nat) : Int) by omega), cond_true, zax (by omega)]
    rw [ht, zad (show (j : Int) < ((4 : Nat) : Int) by omega)]
    simp only [zaz, Int.toNat_natCast, Bool.and_self, mst2, h1, bsm]
    refine ih n (j + 1) _ _ (by omega) (by omega) (by rw [zap]; exact ht) h2 ?_ ?_
    . intro p h
      rw [zaD, if_neg (by omega)]
      exact hp p (by omega)
    . rw [zaH _ _ (by omega), zag t0, zag mL, Nat.pow_succ, ← hp j (Nat.le_refl _)]
      exact zfN.alg4 _ _ _ _ _ _ _ _ _ _ hv h3
theorem zxr {N : Nat} (hN : 10 < N) {a b : List UInt64} (ha : a.length = 4) (hb : b.length = 4) (hal : lv a < RR) (hbl : lv b < RR) : ∃ r, q177 N a b mL = some (r, ()) /\ r.length = 4 /\ lv r = (lv a + (RR - lv b)) % RR := by
  have hRR := zrC
  obtain ⟨c', t', n', h1, h2, h3, h4⟩ := zrI N a b ha hb 4 N 0 0 [0, 0, 0, 0] rfl (by omega) rfl (by decide) (by simp [lv])
  have hq : q177 N a b mL = zfu N N a b mL 0 ((0 : Nat) : Int) [0, 0, 0, 0] := by
    unfold q177
    rw [show List.length mL = 4 from rfl, Int.toNat_natCast, zaQ rfl, zaG (by omega)]
    simp only [Bool.and_self, mst2]
    rfl
  have htl := zhs t'
  rw [h1] at htl
  rw [hq, h4, zgP]
  unfold zid
  rw [show List.length mL = 4 from rfl, zab (by omega), cond_false, zrH hal hbl]
  by_cases hc : c' = 1
  . rw [hc] at h3 ⊢
    rw [show UInt64.toNat 1 = 1 from rfl] at h3
    rw [beq_self_eq_true, cond_true]
    obtain ⟨c2, r, g1, g4, g2, g3⟩ := zog N t' 4 N 0 0 t' rfl (by omega) h1 (by decide) (fun _ _ => rfl) (by simp [lv])
    rw [List.take_of_length_le (by omega)] at g2
    have hrl := zhs r
    rw [g4] at hrl
    rw [if_neg (by omega)]
    exact ⟨r, g3, g4, by omega⟩
  . have hc0 : c'.toNat = 0 := by
      have : c'.toNat ≠ 1 := fun h => hc (UInt64.toNat_inj.1 h)
      omega
    rw [hc0] at h3
    rw [beq_eq_false_iff_ne.2 hc, cond_false, if_pos (by omega)]
    exact ⟨t', rfl, h1, by omega⟩
theorem zvo {N : Nat} (hN : 10 < N) {a b : Fr} (ha : fv a < RR) (hb : fv b < RR) : q83 N a b = some (frN ((fv a + (RR - fv b)) % RR), ()) := by
  obtain ⟨r, h1, h2, h3⟩ := zxr hN (a := a.l) (b := b.l) rfl rfl ha hb
  have hq : q83 N a b = Option.bind (q177 N a.l b.l mL) fun r1 => Option.bind (q175 N r1.1) fun r2 => some ((Prod.fst r2, ())) := rfl
  rw [hq, h1]
  simp only [bsm]
  rw [zl8 (by omega)]
  simp only [bsm]
  rw [h3]
  rfl
theorem zgS : fv ⟨0, 0, 0, 0⟩ = 0 := by decide
theorem zjl (n : UInt64) : fv ⟨n, 0, 0, 0⟩ = n.toNat := by simp [fv, Fr.l, lv]
theorem zvp : 0 < RR := by decide
theorem zAq {N : Nat} (hN : 10 < N) {a : Fr} (ha : fv a < RR) : q84 N a = some (frN ((RR - fv a) % RR), ()) := by
  unfold q84
  rw [zvn hN (by rw [zgS]; exact zvp) ha, zgS, Nat.zero_add]
  rfl
theorem zvq {N : Nat} (hN : 10 < N) {a : Fr} (ha : fv a < RR) : q85 N a = some (frN ((RR - fv a) % RR), ()) := by
  unfold q85
  rw [zvo hN (by rw [zgS]; exact zvp) ha, zgS, Nat.zero_add]
  rfl
theorem zvr {N : Nat} (hN : 10 < N) (a : Fr) : q69 N a = some (decide (fv a < RR), ()) := by
  have hq : q69 N a = Option.bind (q168 N a.l mL) fun r1 => some ((Prod.fst r1, ())) := rfl
  rw [hq, zl3 (N := N) (a := a.l) (m := mL) (by decide) rfl (by show 4 < N; omega), zgR]
  rfl
theorem zxs (x y : Nat) : ltI (cmpN x y) 0 = decide (x < y) := by
  unfold cmpN
  split
  . rename_i h; rw [decide_eq_true h]; rfl
  . rename_i h
    rw [decide_eq_false h]
    split <;> rfl
theorem zAr {N : Nat} (hN : 10 < N) (a : Fr) : q79 N a = some (decide (fv a < RR), ()) := by
  have hq : q79 N a = Option.bind (q61 N a.l mL) fun r1 => some (((ltI r1.1 (0 : Int)), ())) := rfl
  rw [hq, zAj (N := N) (a := a.l) (b := mL) (show (4 : Nat) < 1000000 by omega) (show (4 : Nat) < 1000000 by omega) (show max 4 4 < N by omega), zgR]
  simp only [bsm]
  rw [zxs]
  rfl
theorem zxt {N : Nat} (hN : 10 < N) {a b : Fr} (ha : fv a < RR) : q76 N a b = some (frN (fv a * fv b % RR), ()) := by
  obtain ⟨r, h1, h2⟩ := zAm hN (b := b) ha
  rw [h1, zie h2]
theorem zxu (a E i M : Nat) : (a ^ (E / 2 ^ (i + 1)) * a ^ (E / 2 ^ (i + 1)) * (if E / 2 ^ i % 2 = 1 then a else 1)) = a ^ (E / 2 ^ i) := by
  have e : E / 2 ^ i = 2 * (E / 2 ^ (i + 1)) + E / 2 ^ i % 2 := by
    rw [Nat.pow_succ, ← Nat.div_div_eq_div_mul]; omega
  have h2 : E / 2 ^ i % 2 = 0 \/ E / 2 ^ i % 2 = 1 := by omega
  rw [← Nat.pow_add]
  rcases h2 with h | h
  . rw [h, if_neg (by omega), Nat.mul_one]; congr 1; omega
  . rw [h, if_pos rfl, ← Nat.pow_succ]; congr 1; omega
def Cg (a b : Nat) : Prop := a % RR = b % RR
theorem Cg.rfl' {a : Nat} : Cg a a := rfl
theorem Cg.symm {a b : Nat} (h : Cg a b) : Cg b a := Eq.symm h
theorem Cg.trans {a b c : Nat} (h : Cg a b) (g : Cg b c) : Cg a c := Eq.trans h g
theorem Cg.mul {a b c d : Nat} (h1 : Cg a b) (h2 : Cg c d) : Cg (a * c) (b * d) := by
  unfold Cg at *
  rw [Nat.mul_mod, h1, h2, ← Nat.mul_mod]
theorem Cg.add {a b c d : Nat} (h1 : Cg a b) (h2 : Cg c d) : Cg (a + c) (b + d) := by
  unfold Cg at *
  rw [Nat.add_mod, h1, h2, ← Nat.add_mod]
theorem Cg.pow {a b : Nat} (h1 : Cg a b) (n : Nat) : Cg (a ^ n) (b ^ n) := by
  induction n with
  | zero => exact Cg.rfl'
  | succ n ih => rw [Nat.pow_succ, Nat.pow_succ]; exact ih.mul h1
theorem Cg.mod (a : Nat) : Cg (a % RR) a := Nat.mod_mod _ _
theorem Cg.of_eq {a b : Nat} (h : a = b) : Cg a b := by rw [h]; exact Cg.rfl'
theorem Cg.lt {a b : Nat} (h : Cg a b) (ha : a < RR) : a = b % RR := by
  unfold Cg at h
  rw [← h, Nat.mod_eq_of_lt ha]
theorem zAs {N : Nat} (hN : 10 < N) (a : Fr) (ha : fv a < RR) (e z : List UInt64) (he : e.length < 1000) : ∀ (i n : Nat) (x : Fr), i < n -> i <= 64 * e.length -> fv x < RR -> Cg (fv x) (fv a ^ (lv e / 2 ^ i)) ->
    zn8 N n e ((i : Int) - 1) a.l z x.l = some (frN (fv a ^ lv e % RR), ()) := by
  intro i
  induction i with
  | zero =>
    intro n x hn hi hx hx2
    obtain ⟨n, rfl⟩ : ∃ m, n = m + 1 := ⟨n - 1, by omega⟩
    rw [zia]
    unfold zn7
    rw [zaC (by omega), cond_false, show Fr.of? x.l = some x from rfl, show List.length x.l = 4 from rfl, show Nat.beq 4 4 = true from rfl]
    simp only [mst2, bsm]
    rw [Nat.pow_zero, Nat.div_one] at hx2
    have : x = frN (fv a ^ lv e % RR) := zie (hx2.lt hx)
    rw [← this]
  | succ i ih =>
    intro n x hn hi hx hx2
    obtain ⟨n, rfl⟩ : ∃ m, n = m + 1 := ⟨n - 1, by omega⟩
    have hpb := zxu (fv a) (lv e) i 0
    obtain ⟨b, h1, h2⟩ := zxk (N := N) (a := e) (i := i) (by omega)
    have hy2 : Cg (fv (frN (fv x * fv x % RR))) (fv a ^ (lv e / 2 ^ (i + 1)) * fv a ^ (lv e / 2 ^ (i + 1))) := by rw [zda]; exact (Cg.mod _).trans (hx2.mul hx2)
    rw [zia]
    unfold zn7
    rw [show ((i + 1 : Nat) : Int) - 1 = (i : Int) by omega, zaz, cond_true, show Fr.of? x.l = some x from rfl, show Fr.of? a.l = some a from rfl, zeU (by omega) (by omega)]
    simp only [bsm]
    rw [zrF hN hx]
    simp only [bsm]
    rw [h1]
    simp only [bsm]
    have hbb : (b == 1) = decide (lv e / 2 ^ i % 2 = 1) := by
      rw [Bool.eq_iff_iff, beq_iff_eq, decide_eq_true_iff, ← h2, ← UInt64.toNat_inj]
      rfl
    rw [hbb]
    by_cases hb : lv e / 2 ^ i % 2 = 1
    . rw [decide_eq_true hb, cond_true, zrF hN ha]
      simp only [bsm]
      rw [if_pos hb] at hpb
      refine ih n _ (by omega) (by omega) (by rw [zda]; exact zdp _) ?_
      rw [zda, ← hpb]
      exact (Cg.mod _).trans (hy2.mul Cg.rfl')
    . rw [decide_eq_false hb, cond_false]
      rw [if_neg hb, Nat.mul_one] at hpb
      refine ih n _ (by omega) (by omega) (by rw [zda]; exact zdp _) ?_
      rw [hpb] at hy2
      exact hy2
theorem zvs {N : Nat} {a : Fr} {e : List UInt64} (ha : fv a < RR) (he : 64 * e.length + 100 < N) (he2 : e.length < 1000) : q73 N a e = some (frN (fv a ^ lv e % RR), ()) := by
  unfold q73
  rw [show q173 N 1 = some ((⟨1, 0, 0, 0⟩ : Fr), ()) from rfl]
  simp only [bsm]
  rw [show wr (64 * (e.length : Int)) = ((64 * e.length : Nat) : Int) by rw [zeU (by omega) (by omega)]; omega, zeU (by omega) (by omega)]
  have hlt : lv e / 2 ^ (64 * e.length) = 0 := by
    apply Nat.div_eq_of_lt
    have := zhs e
    rw [Nat.pow_mul]
    exact this
  exact zAs (by omega) a ha e [0, 0, 0, 0] he2 (64 * e.length) N ⟨1, 0, 0, 0⟩ (by omega) (Nat.le_refl _) (by rw [zjl]; decide) (by rw [hlt, Nat.pow_zero, zjl]; exact Cg.rfl')
end
section
def nd (q : Nat) : Nat -> Nat -> Bool
  | 0, lo => !(Nat.beq (q % lo) 0)
  | k + 1, lo => nd q k lo && nd q k (lo + 2 ^ k)
end
section
theorem zaf (x : Fr) : Fr.mk x.a0 x.a1 x.a2 x.a3 = x := rfl
theorem zah : Fr.mk 0 0 0 0 = Fr.zero := rfl
def eqF (x y : Fr) : Bool := decide (x = y)
theorem zjm (x : Fr) : eqF x x = true := decide_eq_true rfl
theorem zt2 {x y : Fr} (h : x = y) : eqF x y = true := decide_eq_true h
theorem zrJ {x y : Fr} (h : x ≠ y) : eqF x y = false := decide_eq_false h
theorem zai (x y : Fr) : eqL El.u64 [x.a0, x.a1, x.a2, x.a3] [y.a0, y.a1, y.a2, y.a3] = eqF x y := zrD x y
theorem zaj (x : Fr) (n : UInt64) : eqL El.u64 [x.a0, x.a1, x.a2, x.a3] [n, (0 : UInt64), (0 : UInt64), (0 : UInt64)] = eqF x ⟨n, 0, 0, 0⟩ := zrD x ⟨n, 0, 0, 0⟩
def zCH (log : Nat) : Nat := 7 ^ ((RR - 1) / 2 ^ log) % RR
theorem zAt (N : Nat) (n : UInt64) : q75 N n = some ((⟨n, 0, 0, 0⟩ : Fr), ()) := rfl
theorem zjn (N : Nat) (n : UInt64) : q173 N n = some ((⟨n, 0, 0, 0⟩ : Fr), ()) := rfl
class Big (N : Nat) : Prop where
  h : 2000 <= N
instance : Big 2000 := ⟨Nat.le_refl _⟩
end
section
def q193 (N : Nat) (a0 : Fr) : Option (Fr × Unit) :=
  Option.bind (q76 N (a0) (a0)) fun rr0 => Option.bind (q76 N (rr0.1) (rr0.1)) fun rr1 => Option.bind (q76 N (rr1.1) (a0)) fun rr2 => some ((rr2.1, ()))
theorem zAu : p193 = q193 := by
  (repeat (apply funext; intro _))
  simp only [p193, q193, zw9, zaf, zai, zaj, zah]
def q195 (N : Nat) (at0 : Int) (w1 : List Int) : Option (Row × Unit) :=
  must (leI (↑(3 : Nat) : Int) (↑w1.length : Int)) (must (leN ((0 : Nat) + (3 : Nat)) w1.length) (Option.bind (q75 N (1 : UInt64)) fun rr0 => cond (eqI at0 (↑(0 : Nat) : Int)) (must (eqI at0 (↑(0 : Nat) : Int)) (some ((Row.mk (rr0.1) (Fr.zero) (Fr.zero) (Fr.zero) (Fr.zero) (Fr.zero) (Fr.zero) (Fr.zero) (List.getD w1 (0 : Nat) (0 : Int)) (List.getD w1 ((0 : Nat) + (1 : Nat)) (0 : Int)) (List.getD w1 ((0 : Nat) + (1 : Nat) + (1 : Nat)) (0 : Int)), ())))) (cond (eqI at0 (↑((0 : Nat) + (1 : Nat)) : Int)) (must (eqI at0 (↑((0 : Nat) + (1 : Nat)) : Int)) (some ((Row.mk (Fr.zero) (rr0.1) (Fr.zero) (Fr.zero) (Fr.zero) (Fr.zero) (Fr.zero) (Fr.zero) (List.getD w1 (0 : Nat) (0 : Int)) (List.getD w1 ((0 : Nat) + (1 : Nat)) (0 : Int)) (List.getD w1 ((0 : Nat) + (1 : Nat) + (1 : Nat)) (0 : Int)), ())))) (cond (eqI at0 (↑((0 : Nat) + (1 : Nat) + (1 : Nat)) : Int)) (must (eqI at0 (↑((0 : Nat) + (1 : Nat) + (1 : Nat)) : Int)) (some ((Row.mk (Fr.zero) (Fr.zero) (rr0.1) (Fr.zero) (Fr.zero) (Fr.zero) (Fr.zero) (Fr.zero) (List.getD w1 (0 : Nat) (0 : Int)) (List.getD w1 ((0 : Nat) + (1 : Nat)) (0 : Int)) (List.getD w1 ((0 : Nat) + (1 : Nat) + (1 : Nat)) (0 : Int)), ())))) (cond (eqI at0 (↑((0 : Nat) + (1 : Nat) + (1 : Nat) + (1 : Nat)) : Int)) (must (eqI at0 (↑((0 : Nat) + (1 : Nat) + (1 : Nat) + (1 : Nat)) : Int)) (some ((Row.mk (Fr.zero) (Fr.zero) (Fr.zero) (rr0.1) (Fr.zero) (Fr.zero) (Fr.zero) (Fr.zero) (List.getD w1 (0 : Nat) (0 : Int)) (List.getD w1 ((0 : Nat) + (1 : Nat)) (0 : Int)) (List.getD w1 ((0 : Nat) + (1 : Nat) + (1 : Nat)) (0 : Int)), ())))) (cond (eqI at0 (↑((0 : Nat) + (1 : Nat) + (1 : Nat) + (1 : Nat) + (1 : Nat)) : Int)) (must (eqI at0 (↑((0 : Nat) + (1 : Nat) + (1 : Nat) + (1 : Nat) + (1 : Nat)) : Int)) (some ((Row.mk (Fr.zero) (Fr.zero) (Fr.zero) (Fr.zero) (rr0.1) (Fr.zero) (Fr.zero) (Fr.zero) (List.getD w1 (0 : Nat) (0 : Int)) (List.getD w1 ((0 : Nat) + (1 : Nat)) (0 : Int)) (List.getD w1 ((0 : Nat) + (1 : Nat) + (1 : Nat)) (0 : Int)), ())))) (cond (eqI at0 (↑((0 : Nat) + (1 : Nat) + (1 : Nat) + (1 : Nat) + (1 : Nat) + (1 : Nat)) : Int)) (must (eqI at0 (↑((0 : Nat) + (1 : Nat) + (1 : Nat) + (1 : Nat) + (1 : Nat) + (1 : Nat)) : Int)) (some ((Row.mk (Fr.zero) (Fr.zero) (Fr.zero) (Fr.zero) (Fr.zero) (rr0.1) (Fr.zero) (Fr.zero) (List.getD w1 (0 : Nat) (0 : Int)) (List.getD w1 ((0 : Nat) + (1 : Nat)) (0 : Int)) (List.getD w1 ((0 : Nat) + (1 : Nat) + (1 : Nat)) (0 : Int)), ())))) (cond (eqI at0 (↑((0 : Nat) + (1 : Nat) + (1 : Nat) + (1 : Nat) + (1 : Nat) + (1 : Nat) + (1 : Nat)) : Int)) (must (eqI at0 (↑((0 : Nat) + (1 : Nat) + (1 : Nat) + (1 : Nat) + (1 : Nat) + (1 : Nat) + (1 : Nat)) : Int)) (some ((Row.mk (Fr.zero) (Fr.zero) (Fr.zero) (Fr.zero) (Fr.zero) (Fr.zero) (rr0.1) (Fr.zero) (List.getD w1 (0 : Nat) (0 : Int)) (List.getD w1 ((0 : Nat) + (1 : Nat)) (0 : Int)) (List.getD w1 ((0 : Nat) + (1 : Nat) + (1 : Nat)) (0 : Int)), ())))) (must (eqI at0 (↑((0 : Nat) + (1 : Nat) + (1 : Nat) + (1 : Nat) + (1 : Nat) + (1 : Nat) + (1 : Nat) + (1 : Nat)) : Int)) (must (eqI at0 (↑((0 : Nat) + (1 : Nat) + (1 : Nat) + (1 : Nat) + (1 : Nat) + (1 : Nat) + (1 : Nat) + (1 : Nat)) : Int)) (some ((Row.mk (Fr.zero) (Fr.zero) (Fr.zero) (Fr.zero) (Fr.zero) (Fr.zero) (Fr.zero) (rr0.1) (List.getD w1 (0 : Nat) (0 : Int)) (List.getD w1 ((0 : Nat) + (1 : Nat)) (0 : Int)) (List.getD w1 ((0 : Nat) + (1 : Nat) + (1 : Nat)) (0 : Int)), ())))))))))))))
theorem zAv : p195 = q195 := by
  (repeat (apply funext; intro _))
  simp only [p195, q195, zz9, zaf, zai, zaj, zah]
def zif (N : Nat) (A_4 : (List Fr) -> Int -> (List Fr) -> Fr -> Fr -> Option (Fr × Unit)) (t37 : List Fr) (t38 : Int) (ob0 : List Fr) (ob1 ob2 : Fr) : Option (Fr × Unit) :=
  cond ((ltI t38 (8 : Int))) (must (leI (0 : Int) t38 && (ltI t38 (↑(8 : Nat) : Int) && ltI t38 (↑t37.length : Int))) (must (leI (0 : Int) t38 && ltI t38 (↑(8 : Nat) : Int)) (Option.bind (q76 N ((List.getD ob0 t38.toNat (Fr.zero))) ((List.getD t37 t38.toNat (Fr.zero)))) fun rr0 => Option.bind (q80 N (ob2) (rr0.1)) fun rr1 => A_4 t37 ((wr (t38 + (1 : Int)))) ob0 (ob1) (rr1.1)))) (some ((ob2, ())))
theorem zt3 : zql = zif := by
  (repeat (apply funext; intro _))
  simp only [zql, zif, hide_eq, zw9, zxg, zaf, zai, zaj, zah]
def zig (N n : Nat) (t37 : List Fr) (t38 : Int) (ob0 : List Fr) (ob1 ob2 : Fr) : Option (Fr × Unit) :=
  zam (fun A x => zif N (fun t37 t38 ob0 ob1 ob2 => A (((), ((), ((), (t37, (t38, ()))))), (ob0, (ob1, (ob2, ()))))) x.1.2.2.2.1 x.1.2.2.2.2.1 x.2.1 x.2.2.1 x.2.2.2.1) n (((), ((), ((), (t37, (t38, ()))))), (ob0, (ob1, (ob2, ()))))
theorem zt4 : zqm = zig := by
  (repeat (apply funext; intro _))
  simp only [zqm, zig, zt3, zaf, zai, zaj, zah]
theorem zgT (N n : Nat) (t37 : List Fr) (t38 : Int) (ob0 : List Fr) (ob1 ob2 : Fr) : zig N (n + 1) t37 t38 ob0 ob1 ob2 = zif N (zig N n) t37 t38 ob0 ob1 ob2 := rfl
def q106 (N : Nat) (q0 : List Fr) (a1 b2 c3 next4 : Fr) : Option (Fr × Unit) :=
  must (Nat.beq q0.length (8 : Nat)) (Option.bind (q76 N (a1) (b2)) fun rr0 => Option.bind (q75 N (1 : UInt64)) fun rr1 => Option.bind (q76 N (a1) (a1)) fun rr2 => Option.bind (q82 N (rr2.1) (a1)) fun rr3 => Option.bind (q193 N (a1)) fun rr4 => Option.bind (q82 N (rr4.1) (c3)) fun rr5 => Option.bind (q80 N (a1) (b2)) fun rr6 => Option.bind (q82 N (rr6.1) (next4)) fun rr7 => zig N N ([rr0.1, a1, b2, c3, rr1.1, rr3.1, rr5.1, rr7.1]) (0 : Int) q0 (Fr.zero) (Fr.zero))
theorem zAw : p106 = q106 := by
  (repeat (apply funext; intro _))
  simp only [p106, q106, zt4, zAu, zz9, zw9, zxg, zAc, zaf, zai, zaj, zah]
def q108 (N : Nat) (s0 : Stp) : Option (List Row × Int × Unit) :=
  cond ((eqI s0.kind (1 : Int))) (cond ((eqI s0.kind (1 : Int))) (some (([], (0 : Int), ()))) (cond ((eqI s0.kind (2 : Int))) (some (([Row.mk (s0.q0) (s0.q1) (s0.q2) (s0.q3) (s0.q4) (Fr.zero) (Fr.zero) (Fr.zero) (mxI s0.v0 (-1 : Int)) (mxI s0.v1 (-1 : Int)) (mxI s0.v2 (-1 : Int))], (0 : Int), ()))) (cond ((eqI s0.kind (3 : Int))) (Option.bind (q195 N (5 : Int) ([Stp.v0 s0, (-1 : Int), (-1 : Int)])) fun rr7 => some (([rr7.1], (0 : Int), ()))) (cond ((eqI s0.kind (4 : Int))) (Option.bind (q195 N (6 : Int) ([Stp.v0 s0, (-1 : Int), Stp.v2 s0])) fun rr6 => some (([rr6.1], (0 : Int), ()))) (cond ((eqI s0.kind (5 : Int))) (Option.bind (q195 N (7 : Int) ([Stp.v0 s0, Stp.v1 s0, (-1 : Int)])) fun rr5 => some (([rr5.1, Row.mk (Fr.zero) (Fr.zero) (Fr.zero) (Fr.zero) (Fr.zero) (Fr.zero) (Fr.zero) (Fr.zero) s0.v2 (-1 : Int) (-1 : Int)], (0 : Int), ()))) (cond ((eqI s0.kind (7 : Int))) (Option.bind (q195 N (1 : Int) ([Stp.v0 s0, (-1 : Int), (-1 : Int)])) fun rr4 => some (([rr4.1], (0 : Int), ()))) (some (([], (11 : Int), ()))))))))) (cond ((eqI s0.kind (6 : Int))) (some (([], (0 : Int), ()))) (cond ((eqI s0.kind (2 : Int))) (some (([Row.mk (s0.q0) (s0.q1) (s0.q2) (s0.q3) (s0.q4) (Fr.zero) (Fr.zero) (Fr.zero) (mxI s0.v0 (-1 : Int)) (mxI s0.v1 (-1 : Int)) (mxI s0.v2 (-1 : Int))], (0 : Int), ()))) (cond ((eqI s0.kind (3 : Int))) (Option.bind (q195 N (5 : Int) ([Stp.v0 s0, (-1 : Int), (-1 : Int)])) fun rr3 => some (([rr3.1], (0 : Int), ()))) (cond ((eqI s0.kind (4 : Int))) (Option.bind (q195 N (6 : Int) ([Stp.v0 s0, (-1 : Int), Stp.v2 s0])) fun rr2 => some (([rr2.1], (0 : Int), ()))) (cond ((eqI s0.kind (5 : Int))) (Option.bind (q195 N (7 : Int) ([Stp.v0 s0, Stp.v1 s0, (-1 : Int)])) fun rr1 => some (([rr1.1, Row.mk (Fr.zero) (Fr.zero) (Fr.zero) (Fr.zero) (Fr.zero) (Fr.zero) (Fr.zero) (Fr.zero) s0.v2 (-1 : Int) (-1 : Int)], (0 : Int), ()))) (cond ((eqI s0.kind (7 : Int))) (Option.bind (q195 N (1 : Int) ([Stp.v0 s0, (-1 : Int), (-1 : Int)])) fun rr0 => some (([rr0.1], (0 : Int), ()))) (some (([], (11 : Int), ())))))))))
theorem zAx : p108 = q108 := by
  (repeat (apply funext; intro _))
  simp only [p108, q108, hide_eq, zAv, zaf, zai, zaj, zah]
def q190 (N : Nat) (a0 b1 : Fr) : Option (Fr × Unit) :=
  Option.bind (q94 N (a0) (b1)) fun rr0 => some ((rr0.1, ()))
theorem zvt : p190 = q190 := by
  (repeat (apply funext; intro _))
  simp only [p190, q190, ztT, zaf, zai, zaj, zah]
def q194 (N : Nat) (a0 b1 : Fr) : Option (Fr × Unit) :=
  Option.bind (q81 N (a0) (b1)) fun rr0 => some ((rr0.1, ()))
theorem zvu : p194 = q194 := by
  (repeat (apply funext; intro _))
  simp only [p194, q194, ztW, zaf, zai, zaj, zah]
def zih (N : Nat) (A_5 : Int -> (List Fr) -> Fr -> (List Fr) -> Fr -> Option (Fr × Unit)) (i14 : Int) (ob0 : List Fr) (ob1 : Fr) (ob2 : List Fr) (ob3 : Fr) : Option (Fr × Unit) :=
  cond ((ltI i14 (8 : Int))) (must (leI (0 : Int) i14 && ltI i14 (↑(8 : Nat) : Int)) (must (leI (0 : Int) i14 && ltI i14 (↑(8 : Nat) : Int)) (Option.bind (q190 N ((List.getD ob0 i14.toNat (Fr.zero))) ((List.getD ob2 i14.toNat (Fr.zero)))) fun rr0 => Option.bind (q194 N (ob3) (rr0.1)) fun rr1 => A_5 ((wr (i14 + (1 : Int)))) ob0 (ob1) ob2 (rr1.1)))) (some ((ob3, ())))
theorem zt5 : zqr = zih := by
  (repeat (apply funext; intro _))
  simp only [zqr, zih, hide_eq, zvt, zvu, zaf, zai, zaj, zah]
def zii (N n : Nat) (i14 : Int) (ob0 : List Fr) (ob1 : Fr) (ob2 : List Fr) (ob3 : Fr) : Option (Fr × Unit) :=
  zam (fun A x => zih N (fun i14 ob0 ob1 ob2 ob3 => A (((), ((), ((), ((), (i14, ()))))), (ob0, (ob1, (ob2, (ob3, ())))))) x.1.2.2.2.2.1 x.2.1 x.2.2.1 x.2.2.2.1 x.2.2.2.2.1) n (((), ((), ((), ((), (i14, ()))))), (ob0, (ob1, (ob2, (ob3, ())))))
theorem zt6 : zqs = zii := by
  (repeat (apply funext; intro _))
  simp only [zqs, zii, zt5, zaf, zai, zaj, zah]
theorem zgU (N n : Nat) (i14 : Int) (ob0 : List Fr) (ob1 : Fr) (ob2 : List Fr) (ob3 : Fr) : zii N (n + 1) i14 ob0 ob1 ob2 ob3 = zih N (zii N n) i14 ob0 ob1 ob2 ob3 := rfl
def q107 (N : Nat) (q0 : List Fr) (a1 b2 c3 next4 : Fr) : Option (Fr × Unit) :=
  must (Nat.beq q0.length (8 : Nat)) (Option.bind (q190 N (a1) (a1)) fun rr0 => Option.bind (q190 N (a1) (b2)) fun rr1 => Option.bind (q173 N (1 : UInt64)) fun rr2 => Option.bind (q83 N (rr0.1) (a1)) fun rr3 => Option.bind (q190 N (rr0.1) (rr0.1)) fun rr4 => Option.bind (q190 N (rr4.1) (a1)) fun rr5 => Option.bind (q83 N (rr5.1) (c3)) fun rr6 => Option.bind (q194 N (a1) (b2)) fun rr7 => Option.bind (q83 N (rr7.1) (next4)) fun rr8 => zii N N (0 : Int) q0 (Fr.zero) ([rr1.1, a1, b2, c3, rr2.1, rr3.1, rr6.1, rr8.1]) (Fr.zero))
theorem zAy : p107 = q107 := by
  (repeat (apply funext; intro _))
  simp only [p107, q107, zt6, zkn, zvt, zvu, zxh, zaf, zai, zaj, zah]
end
section
def Sc (x : Fr) : Prop := fv x < RR
def fmul (x y : Fr) : Fr := frN (fv x * fv y % RR)
def fadd (x y : Fr) : Fr := frN ((fv x + fv y) % RR)
def fsub (x y : Fr) : Fr := frN ((fv x + (RR - fv y)) % RR)
theorem zrK (n : Nat) : Sc (frN (n % RR)) := by unfold Sc; rw [zda]; exact zdp _
theorem zdL (x y : Fr) : Sc (fmul x y) := zrK _
theorem zkr (x y : Fr) : Sc (fadd x y) := zrK _
theorem zdM (x y : Fr) : Sc (fsub x y) := zrK _
theorem zay : Sc Fr.zero := by unfold Sc; decide +kernel
theorem zvv : Sc ⟨1, 0, 0, 0⟩ := by unfold Sc; decide +kernel
theorem zgV (x y : Fr) : Cg (fv (fmul x y)) (fv x * fv y) := by unfold fmul; rw [zda]; exact Cg.mod _
theorem zrL (x y : Fr) : Cg (fv (fadd x y)) (fv x + fv y) := by unfold fadd; rw [zda]; exact Cg.mod _
theorem zks (x y : Fr) : Cg (fv (fsub x y)) (fv x + (RR - fv y)) := by unfold fsub; rw [zda]; exact Cg.mod _
theorem fvz : fv Fr.zero = 0 := zgS
theorem zht {x y : Fr} (hx : Sc x) (hy : Sc y) (h : Cg (fv x) (fv y)) : x = y := by
  unfold Cg at h
  unfold Sc at hx hy
  rw [Nat.mod_eq_of_lt hx, Nat.mod_eq_of_lt hy] at h
  exact zvl h
theorem mulF {N : Nat} (hN : 10 < N) {a b : Fr} (ha : Sc a) : q76 N a b = some (fmul a b, ()) := zxt hN ha
theorem mulR {N : Nat} (hN : 10 < N) {a b : Fr} (hb : Sc b) : q94 N a b = some (fmul a b, ()) := zrF hN hb
theorem addF {N : Nat} (hN : 10 < N) {a b : Fr} (ha : Sc a) (hb : Sc b) : q80 N a b = some (fadd a b, ()) := zAo hN ha hb
theorem addR {N : Nat} (hN : 10 < N) {a b : Fr} (ha : Sc a) (hb : Sc b) : q81 N a b = some (fadd a b, ()) := zAp hN ha hb
theorem subF {N : Nat} (hN : 10 < N) {a b : Fr} (ha : Sc a) (hb : Sc b) : q82 N a b = some (fsub a b, ()) := zvn hN ha hb
theorem subR {N : Nat} (hN : 10 < N) {a b : Fr} (ha : Sc a) (hb : Sc b) : q83 N a b = some (fsub a b, ()) := zvo hN ha hb
theorem zgW {N : Nat} (hN : 10 < N) {a b : Fr} (hb : Sc b) : q190 N a b = some (fmul a b, ()) := by
  unfold q190
  rw [mulR hN hb]
  simp only [bsm]
theorem zrM {N : Nat} (hN : 10 < N) {a b : Fr} (ha : Sc a) (hb : Sc b) : q194 N a b = some (fadd a b, ()) := by
  unfold q194
  rw [addR hN ha hb]
  simp only [bsm]
def vsum (q t : List Fr) : Nat -> Nat -> Fr -> Fr
  | 0, _, s => s
  | k + 1, i, s => vsum q t k (i + 1) (fadd s (fmul (q.getD i Fr.zero) (t.getD i Fr.zero)))
theorem zxv (N : Nat) (hN : 10 < N) (q t : List Fr) (z : Fr) (hq : q.length = 8) (ht : t.length = 8) (hs : ∀ i, Sc (q.getD i Fr.zero)) : ∀ (k n i : Nat) (s : Fr), i + k = 8 -> k < n -> Sc s -> zig N n t (i : Int) q z s = some (vsum q t k i s, ()) := by
  intro k
  induction k with
  | zero =>
    intro n i s hi hn hss
    obtain ⟨n, rfl⟩ : ∃ m, n = m + 1 := ⟨n - 1, by omega⟩
    rw [zgT]
    unfold zif
    rw [zab (by omega), cond_false]
    rfl
  | succ k ih =>
    intro n i s hi hn hss
    obtain ⟨n, rfl⟩ : ∃ m, n = m + 1 := ⟨n - 1, by omega⟩
    rw [zgT]
    unfold zif
    rw [zad (show (i : Int) < 8 by omega), cond_true, zaz, ht, zad (show (i : Int) < ((8 : Nat) : Int) by omega), Bool.and_self, Bool.and_self, mst2, mst2, Int.toNat_natCast, mulF hN (hs i)]
    simp only [bsm]
    rw [addF hN hss (zdL _ _), zax (by omega)]
    exact ih n (i + 1) _ (by omega) (by omega) (zkr _ _)
theorem zxw (N : Nat) (hN : 10 < N) (q t : List Fr) (z : Fr) (hq : q.length = 8) (ht : t.length = 8) (hs : ∀ i, Sc (t.getD i Fr.zero)) : ∀ (k n i : Nat) (s : Fr), i + k = 8 -> k < n -> Sc s -> zii N n (i : Int) q z t s = some (vsum q t k i s, ()) := by
  intro k
  induction k with
  | zero =>
    intro n i s hi hn hss
    obtain ⟨n, rfl⟩ : ∃ m, n = m + 1 := ⟨n - 1, by omega⟩
    rw [zgU]
    unfold zih
    rw [zab (by omega), cond_false]
    rfl
  | succ k ih =>
    intro n i s hi hn hss
    obtain ⟨n, rfl⟩ : ∃ m, n = m + 1 := ⟨n - 1, by omega⟩
    rw [zgU]
    unfold zih
    rw [zad (show (i : Int) < 8 by omega), cond_true, zaz, zad (show (i : Int) < ((8 : Nat) : Int) by omega), Bool.and_self, mst2, mst2, Int.toNat_natCast, zgW hN (hs i)]
    simp only [bsm]
    rw [zrM hN hss (zdL _ _), zax (by omega)]
    exact ih n (i + 1) _ (by omega) (by omega) (zkr _ _)
def wl (a b c nx : Fr) : List Fr := [fmul a b, a, b, c, ⟨1, 0, 0, 0⟩, fsub (fmul a a) a, fsub (fmul (fmul (fmul a a) (fmul a a)) a) c, fsub (fadd a b) nx]
def gval (q : List Fr) (a b c nx : Fr) : Fr := vsum q (wl a b c nx) 8 0 Fr.zero
theorem zCI {a b c nx : Fr} (ha : Sc a) (hb : Sc b) (hc : Sc c) : ∀ i, Sc ((wl a b c nx).getD i Fr.zero) := by
  intro i
  match i with
  | 0 => exact zdL _ _
  | 1 => exact ha
  | 2 => exact hb
  | 3 => exact hc
  | 4 => exact zvv
  | 5 => exact zdM _ _
  | 6 => exact zdM _ _
  | 7 => exact zdM _ _
  | n + 8 => exact zay
theorem zxx {N : Nat} (hN : 10 < N) {a : Fr} (ha : Sc a) : q193 N a = some (fmul (fmul (fmul a a) (fmul a a)) a, ()) := by
  unfold q193
  rw [mulF hN ha]
  simp only [bsm]
  rw [mulF hN (zdL _ _)]
  simp only [bsm]
  rw [mulF hN (zdL _ _)]
  simp only [bsm]
theorem zxy {N : Nat} (hN : 10 < N) {q : List Fr} {a b c nx : Fr} (hq : q.length = 8) (hs : ∀ i, Sc (q.getD i Fr.zero)) (ha : Sc a) (hb : Sc b) (hc : Sc c) (hn : Sc nx) : q106 N q a b c nx = some (gval q a b c nx, ()) := by
  unfold q106
  rw [hq, show Nat.beq 8 8 = true from rfl, mst2, mulF hN ha, zAt, mulF hN ha]
  simp only [bsm]
  rw [subF hN (zdL _ _) ha, zxx hN ha]
  simp only [bsm]
  rw [subF hN (zdL _ _) hc, addF hN ha hb]
  simp only [bsm]
  rw [subF hN (zkr _ _) hn]
  simp only [bsm]
  exact zxv N hN q (wl a b c nx) Fr.zero hq rfl hs 8 N 0 Fr.zero rfl (by omega) zay
theorem zxz {N : Nat} (hN : 10 < N) {q : List Fr} {a b c nx : Fr} (hq : q.length = 8) (ha : Sc a) (hb : Sc b) (hc : Sc c) (hn : Sc nx) : q107 N q a b c nx = some (gval q a b c nx, ()) := by
  unfold q107
  rw [hq, show Nat.beq 8 8 = true from rfl, mst2, zgW hN ha, zgW hN hb, zjn]
  simp only [bsm]
  rw [subR hN (zdL _ _) ha, zgW hN (zdL _ _)]
  simp only [bsm]
  rw [zgW hN ha]
  simp only [bsm]
  rw [subR hN (zdL _ _) hc, zrM hN ha hb]
  simp only [bsm]
  rw [subR hN (zkr _ _) hn]
  simp only [bsm]
  exact zxw N hN q (wl a b c nx) Fr.zero hq rfl (zCI ha hb hc) 8 N 0 Fr.zero rfl (by omega) zay
def nsum (q t : List Fr) : Nat -> Nat -> Nat
  | 0, _ => 0
  | k + 1, i => fv (q.getD i Fr.zero) * fv (t.getD i Fr.zero) + nsum q t k (i + 1)
theorem zxA (q t : List Fr) : ∀ (k i : Nat) (s : Fr), Cg (fv (vsum q t k i s)) (fv s + nsum q t k i) := by
  intro k
  induction k with
  | zero => intro i s; exact Cg.rfl'
  | succ k ih =>
    intro i s
    refine (ih (i + 1) _).trans ?_
    refine ((zrL _ _).add Cg.rfl').trans ?_
    refine ((Cg.rfl'.add (zgV _ _)).add Cg.rfl').trans (Cg.of_eq ?_)
    simp only [nsum]
    omega
theorem zxB (q t : List Fr) : ∀ (k i : Nat) (s : Fr), Sc s -> Sc (vsum q t k i s) := by
  intro k
  induction k with
  | zero => intro i s h; exact h
  | succ k ih => intro i s h; exact ih (i + 1) _ (zkr _ _)
theorem ze1 (q : List Fr) (a b c nx : Fr) : Sc (gval q a b c nx) := zxB _ _ _ _ _ zay
end
section
theorem sh1 {L : Nat} (h : L <= 6) : shlI 1 (UInt64.toNat (u64I (L : Int))) = ((2 ^ L : Nat) : Int) := by
  have : ∀ k : Fin 7, shlI 1 (UInt64.toNat (u64I (k.val : Int))) = ((2 ^ k.val : Nat) : Int) := by decide +kernel
  exact this ⟨L, by omega⟩
theorem ze2 {L : Nat} (h : L <= 6) : 2 ^ L <= 64 := Nat.pow_le_pow_right (by decide) h
theorem zgX (L : Nat) : 0 < 2 ^ L := Nat.pow_pos (by decide)
def nm (L x : Nat) : Fr := fmul (frN (7 ^ (x / 2 ^ L) % RR)) (frN (zCH L ^ (x % 2 ^ L) % RR))
def pre (l : List Fr) : Nat -> Nat
  | 0 => 1
  | i + 1 => pre l i * fv (l.getD i Fr.zero)
end
end Go.Proofs.Ytgimohchocjgcaa.V
