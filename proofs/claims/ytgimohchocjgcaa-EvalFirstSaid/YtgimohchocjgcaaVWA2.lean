import Derived.Test.YtgimohchocjgcaaVFS
import Derived.KernelRfl
import Derived.Test.YtgimohchocjgcaaVUM
import Derived.Test.YtgimohchocjgcaaVLR
import Derived.Test.YtgimohchocjgcaaVWA0
import Derived.Test.YtgimohchocjgcaaVK5
set_option linter.unusedVariables false
set_option linter.unusedSimpArgs false
namespace Go.Proofs.Ytgimohchocjgcaa.V
section
theorem alg5 (B A1 A2 A3 P x y c s d : Nat) (hv : A1 + A3 = A2 + P * c) (h3 : s + y + c = x + B * d) : A1 + P * s + (A3 + P * y) = A2 + P * x + P * B * d := by
  have e : P * (s + y + c) = P * (x + B * d) := by rw [h3]
  grind
theorem zth (N : Nat) (a b z m : List UInt64) (ha : a.length = 4) (hb : b.length = 4) (cc : UInt64) : ∀ (k n j : Nat) (c : UInt64) (t : List UInt64), j + k = 4 -> k < n -> t.length = 4 -> c.toNat <= 1 ->
    lv (t.take j) + lv (b.take j) = lv (a.take j) + 18446744073709551616 ^ j * c.toNat ->
    ∃ (c' : UInt64) (t' : List UInt64) (n' : Nat), t'.length = 4 /\ c'.toNat <= 1 /\ lv t' + lv b = lv a + 18446744073709551616 ^ 4 * c'.toNat /\ zjV N n c cc (j : Int) a b z m t = zjV N (n' + 1) c' cc 4 a b z m t' := by
  intro k
  induction k with
  | zero =>
    intro n j c t hj hn ht hc hv
    obtain ⟨n, rfl⟩ : ∃ m, n = m + 1 := ⟨n - 1, by omega⟩
    obtain rfl : j = 4 := by omega
    rw [List.take_of_length_le (l := t) (by omega), List.take_of_length_le (l := a) (by omega), List.take_of_length_le (l := b) (by omega)] at hv
    exact ⟨c, t, n, ht, hc, hv, rfl⟩
  | succ k ih =>
    intro n j c t hj hn ht hc hv
    obtain ⟨n, rfl⟩ : ∃ m, n = m + 1 := ⟨n - 1, by omega⟩
    obtain ⟨s, d, h1, h2, h3⟩ := ziW (x := a.getD j 0) (y := b.getD j 0) hc
    rw [zhQ]
    unfold znD
    rw [zad (show (j : Int) < 4 by omega), cond_true, zay (by omega)]
    simp only [za9, zaw, Int.toNat_natCast]
    rw [zau (by omega)]
    simp only [Bool.and_self, mst2, h1, bsm]
    refine ih n (j + 1) _ _ (by omega) (by omega) (by rw [zao]; exact ht) h2 ?_
    rw [zaH _ _ (by omega), zaf a, zaf b, Nat.pow_succ]
    exact alg5 _ _ _ _ _ _ _ _ _ _ hv h3
theorem zq4 (N : Nat) (z m t0 : List UInt64) (hm : m.length = 4) : ∀ (k n j : Nat) (c : UInt64) (t : List UInt64), j + k = 4 -> k < n -> t.length = 4 -> c.toNat <= 1 -> (∀ p, j <= p -> t.getD p 0 = t0.getD p 0) ->
    lv (t.take j) + 18446744073709551616 ^ j * c.toNat = lv (t0.take j) + lv (m.take j) ->
    ∃ (c' : UInt64) (r : Fr), c'.toNat <= 1 /\ fv r + 18446744073709551616 ^ 4 * c'.toNat = lv (t0.take 4) + lv m /\ zhP N n c (j : Int) z m t = some (r, ()) := by
  intro k
  induction k with
  | zero =>
    intro n j c t hj hn ht hc hp hv
    obtain ⟨n, rfl⟩ : ∃ m, n = m + 1 := ⟨n - 1, by omega⟩
    obtain rfl : j = 4 := by omega
    rw [List.take_of_length_le (l := t) (by omega), List.take_of_length_le (l := m) (by omega)] at hv
    obtain ⟨r, h1, h2⟩ := of4 ht
    refine ⟨c, r, hc, by rw [fv, h2]; exact hv, ?_⟩
    rw [zgA]
    unfold zhO
    rw [zab (by omega), cond_false, ht, h1]
    rfl
  | succ k ih =>
    intro n j c t hj hn ht hc hp hv
    obtain ⟨n, rfl⟩ : ∃ m, n = m + 1 := ⟨n - 1, by omega⟩
    obtain ⟨s, d, h1, h2, h3⟩ := zcW (x := t.getD j 0) (y := m.getD j 0) hc
    rw [zgA]
    unfold zhO
    rw [zad (show (j : Int) < 4 by omega), cond_true, zay (by omega)]
    simp only [za9, zaw, Int.toNat_natCast]
    rw [zau (by omega)]
    simp only [Bool.and_self, mst2, h1, bsm]
    refine ih n (j + 1) _ _ (by omega) (by omega) (by rw [zao]; exact ht) h2 ?_ ?_
    . intro p h
      rw [zaD, if_neg (by omega)]
      exact hp p (by omega)
    . rw [zaH _ _ (by omega), zaf t0, zaf m, Nat.pow_succ, ← hp j (Nat.le_refl _)]
      exact zfC.alg4 _ _ _ _ _ _ _ _ _ _ hv h3
theorem zq5 {a b : Nat} (ha : a < RR) (hb : b < RR) : (a + (RR - b)) % RR = if b <= a then a - b else a + RR - b := by
  split
  . rw [show a + (RR - b) = (a - b) + RR by omega, Nat.add_mod_right, Nat.mod_eq_of_lt (by omega)]
  . rw [Nat.mod_eq_of_lt (by omega)]; omega
theorem zuu {N : Nat} (hN : 10 < N) {a b : Fr} (ha : fv a < RR) (hb : fv b < RR) : q82 N a b = some (frN ((fv a + (RR - fv b)) % RR), ()) := by
  have hRR := zq1
  obtain ⟨c', t', n', h1, h2, h3, h4⟩ := zth N a.l b.l [0, 0, 0, 0] mL rfl rfl 0 4 N 0 0 [0, 0, 0, 0] rfl (by omega) rfl (by decide) (by simp [lv])
  have hq : q82 N a b = zjV N N 0 0 ((0 : Nat) : Int) a.l b.l [0, 0, 0, 0] mL [0, 0, 0, 0] := rfl
  have e1 : lv a.l = fv a := rfl
  have e2 : lv b.l = fv b := rfl
  rw [e1, e2] at h3
  have htl := zhf t'
  rw [h1] at htl
  rw [hq, h4, zhQ]
  unfold znD
  rw [zab (by omega), cond_false, h1, zq5 ha hb]
  by_cases hc : c' = 0
  . rw [hc] at h3 ⊢
    rw [show UInt64.toNat 0 = 0 from rfl] at h3
    obtain ⟨r, g1, g2⟩ := of4 h1
    rw [beq_self_eq_true, cond_true, show Nat.beq 4 4 = true from rfl, g1]
    simp only [mst2, bsm]
    have hfr : fv r = lv t' := by rw [fv, g2]
    rw [if_pos (by omega)]
    have : r = frN (fv a - fv b) := zh0 (by omega)
    rw [← this]
  . have hc0 : c'.toNat = 1 := by
      have : c'.toNat ≠ 0 := fun h => hc (UInt64.toNat_inj.1 h)
      omega
    rw [hc0] at h3
    rw [beq_eq_false_iff_ne.2 hc, cond_false]
    obtain ⟨c2, r, g1, g2, g3⟩ := zq4 N [0, 0, 0, 0] mL t' rfl 4 N 0 0 t' rfl (by omega) h1 (by decide) (fun _ _ => rfl) (by simp [lv])
    rw [List.take_of_length_le (by omega), zgH] at g2
    have hfr := zzc r
    rw [if_neg (by omega)]
    have : r = frN (fv a + RR - fv b) := zh0 (by omega)
    rw [← this]
    exact g3
theorem zq6 (N : Nat) (a b : List UInt64) (ha : a.length = 4) (hb : b.length = 4) : ∀ (k n j : Nat) (c : UInt64) (t : List UInt64), j + k = 4 -> k < n -> t.length = 4 -> c.toNat <= 1 ->
    lv (t.take j) + lv (b.take j) = lv (a.take j) + 18446744073709551616 ^ j * c.toNat ->
    ∃ (c' : UInt64) (t' : List UInt64) (n' : Nat), t'.length = 4 /\ c'.toNat <= 1 /\ lv t' + lv b = lv a + 18446744073709551616 ^ 4 * c'.toNat /\ zfj N n a b mL c (j : Int) t = zfj N (n' + 1) a b mL c' 4 t' := by
  intro k
  induction k with
  | zero =>
    intro n j c t hj hn ht hc hv
    obtain ⟨n, rfl⟩ : ∃ m, n = m + 1 := ⟨n - 1, by omega⟩
    obtain rfl : j = 4 := by omega
    rw [List.take_of_length_le (l := t) (by omega), List.take_of_length_le (l := a) (by omega), List.take_of_length_le (l := b) (by omega)] at hv
    exact ⟨c, t, n, ht, hc, hv, rfl⟩
  | succ k ih =>
    intro n j c t hj hn ht hc hv
    obtain ⟨n, rfl⟩ : ∃ m, n = m + 1 := ⟨n - 1, by omega⟩
    obtain ⟨s, d, h1, h2, h3⟩ := ziW (x := a.getD j 0) (y := b.getD j 0) hc
    rw [zgF]
    unfold zhZ
    rw [show List.length mL = 4 from rfl, zad (show (j : Int) < ((4 : Nat) : Int) by omega), cond_true, zay (by omega)]
    simp only [za9, zaw, Int.toNat_natCast]
    rw [zau (show j < a.length by omega), zau (show j < b.length by omega), zau (show j < t.length by omega)]
    simp only [Bool.and_self, mst2, h1, bsm]
    refine ih n (j + 1) _ _ (by omega) (by omega) (by rw [zao]; exact ht) h2 ?_
    rw [zaH _ _ (by omega), zaf a, zaf b, Nat.pow_succ]
    exact alg5 _ _ _ _ _ _ _ _ _ _ hv h3
theorem znN (N : Nat) (t0 : List UInt64) : ∀ (k n j : Nat) (c : UInt64) (t : List UInt64), j + k = 4 -> k < n -> t.length = 4 -> c.toNat <= 1 -> (∀ p, j <= p -> t.getD p 0 = t0.getD p 0) ->
    lv (t.take j) + 18446744073709551616 ^ j * c.toNat = lv (t0.take j) + lv (mL.take j) ->
    ∃ (c' : UInt64) (r : List UInt64), c'.toNat <= 1 /\ r.length = 4 /\ lv r + 18446744073709551616 ^ 4 * c'.toNat = lv (t0.take 4) + RR /\ zeR N n mL c (j : Int) t = some (r, ()) := by
  intro k
  induction k with
  | zero =>
    intro n j c t hj hn ht hc hp hv
    obtain ⟨n, rfl⟩ : ∃ m, n = m + 1 := ⟨n - 1, by omega⟩
    obtain rfl : j = 4 := by omega
    rw [List.take_of_length_le (l := t) (by omega), show List.take 4 mL = mL from rfl, zgH] at hv
    refine ⟨c, t, hc, ht, hv, ?_⟩
    rw [zfi]
    unfold zeQ
    rw [show List.length mL = 4 from rfl, zab (by omega), cond_false]
  | succ k ih =>
    intro n j c t hj hn ht hc hp hv
    obtain ⟨n, rfl⟩ : ∃ m, n = m + 1 := ⟨n - 1, by omega⟩
    obtain ⟨s, d, h1, h2, h3⟩ := zcW (x := t.getD j 0) (y := mL.getD j 0) hc
    rw [zfi]
    unfold zeQ
    rw [show List.length mL = 4 from rfl, zad (show (j : Int) < ((4 : Nat) : Int) by omega), cond_true, zay (by omega)]
    rw [ht, zad (show (j : Int) < ((4 : Nat) : Int) by omega)]
    simp only [zaw, Int.toNat_natCast, Bool.and_self, mst2, h1, bsm]
    refine ih n (j + 1) _ _ (by omega) (by omega) (by rw [zao]; exact ht) h2 ?_ ?_
    . intro p h
      rw [zaD, if_neg (by omega)]
      exact hp p (by omega)
    . rw [zaH _ _ (by omega), zaf t0, zaf mL, Nat.pow_succ, ← hp j (Nat.le_refl _)]
      exact zfC.alg4 _ _ _ _ _ _ _ _ _ _ hv h3
theorem zwr {N : Nat} (hN : 10 < N) {a b : List UInt64} (ha : a.length = 4) (hb : b.length = 4) (hal : lv a < RR) (hbl : lv b < RR) : ∃ r, q177 N a b mL = some (r, ()) /\ r.length = 4 /\ lv r = (lv a + (RR - lv b)) % RR := by
  have hRR := zq1
  obtain ⟨c', t', n', h1, h2, h3, h4⟩ := zq6 N a b ha hb 4 N 0 0 [0, 0, 0, 0] rfl (by omega) rfl (by decide) (by simp [lv])
  have hq : q177 N a b mL = zfj N N a b mL 0 ((0 : Nat) : Int) [0, 0, 0, 0] := by
    unfold q177
    rw [show List.length mL = 4 from rfl, Int.toNat_natCast, zaK rfl, zaG (by omega)]
    simp only [Bool.and_self, mst2]
    rfl
  have htl := zhf t'
  rw [h1] at htl
  rw [hq, h4, zgF]
  unfold zhZ
  rw [show List.length mL = 4 from rfl, zab (by omega), cond_false, zq5 hal hbl]
  by_cases hc : c' = 1
  . rw [hc] at h3 ⊢
    rw [show UInt64.toNat 1 = 1 from rfl] at h3
    rw [beq_self_eq_true, cond_true]
    obtain ⟨c2, r, g1, g4, g2, g3⟩ := znN N t' 4 N 0 0 t' rfl (by omega) h1 (by decide) (fun _ _ => rfl) (by simp [lv])
    rw [List.take_of_length_le (by omega)] at g2
    have hrl := zhf r
    rw [g4] at hrl
    rw [if_neg (by omega)]
    exact ⟨r, g3, g4, by omega⟩
  . have hc0 : c'.toNat = 0 := by
      have : c'.toNat ≠ 1 := fun h => hc (UInt64.toNat_inj.1 h)
      omega
    rw [hc0] at h3
    rw [beq_eq_false_iff_ne.2 hc, cond_false, if_pos (by omega)]
    exact ⟨t', rfl, h1, by omega⟩
theorem zzi {N : Nat} (hN : 10 < N) {a b : Fr} (ha : fv a < RR) (hb : fv b < RR) : q83 N a b = some (frN ((fv a + (RR - fv b)) % RR), ()) := by
  obtain ⟨r, h1, h2, h3⟩ := zwr hN (a := a.l) (b := b.l) rfl rfl ha hb
  have hq : q83 N a b = Option.bind (q177 N a.l b.l mL) fun r1 => Option.bind (q175 N r1.1) fun r2 => some ((Prod.fst r2, ())) := rfl
  rw [hq, h1]
  simp only [bsm]
  rw [zlF (by omega)]
  simp only [bsm]
  rw [h3]
  rfl
theorem zgJ : fv ⟨0, 0, 0, 0⟩ = 0 := by decide
theorem ziY (n : UInt64) : fv ⟨n, 0, 0, 0⟩ = n.toNat := by simp [fv, Fr.l, lv]
theorem zuv : 0 < RR := by decide
theorem zzj {N : Nat} (hN : 10 < N) {a : Fr} (ha : fv a < RR) : q84 N a = some (frN ((RR - fv a) % RR), ()) := by
  unfold q84
  rw [zuu hN (by rw [zgJ]; exact zuv) ha, zgJ, Nat.zero_add]
  rfl
theorem zuw {N : Nat} (hN : 10 < N) {a : Fr} (ha : fv a < RR) : q85 N a = some (frN ((RR - fv a) % RR), ()) := by
  unfold q85
  rw [zzi hN (by rw [zgJ]; exact zuv) ha, zgJ, Nat.zero_add]
  rfl
theorem zux {N : Nat} (hN : 10 < N) (a : Fr) : q69 N a = some (decide (fv a < RR), ()) := by
  have hq : q69 N a = Option.bind (q168 N a.l mL) fun r1 => some ((Prod.fst r1, ())) := rfl
  rw [hq, zlA (N := N) (a := a.l) (m := mL) (by decide) rfl (by show 4 < N; omega), zgH]
  rfl
theorem zws (x y : Nat) : ltI (cmpN x y) 0 = decide (x < y) := by
  unfold cmpN
  split
  . rename_i h; rw [decide_eq_true h]; rfl
  . rename_i h
    rw [decide_eq_false h]
    split <;> rfl
theorem zzk {N : Nat} (hN : 10 < N) (a : Fr) : q79 N a = some (decide (fv a < RR), ()) := by
  have hq : q79 N a = Option.bind (q61 N a.l mL) fun r1 => some (((ltI r1.1 (0 : Int)), ())) := rfl
  rw [hq, zza (N := N) (a := a.l) (b := mL) (show (4 : Nat) < 1000000 by omega) (show (4 : Nat) < 1000000 by omega) (show max 4 4 < N by omega), zgH]
  simp only [bsm]
  rw [zws]
  rfl
theorem zwt {N : Nat} (hN : 10 < N) {a b : Fr} (ha : fv a < RR) : q76 N a b = some (frN (fv a * fv b % RR), ()) := by
  obtain ⟨r, h1, h2⟩ := zze hN (b := b) ha
  rw [h1, zh0 h2]
theorem zwu (a E i M : Nat) : (a ^ (E / 2 ^ (i + 1)) * a ^ (E / 2 ^ (i + 1)) * (if E / 2 ^ i % 2 = 1 then a else 1)) = a ^ (E / 2 ^ i) := by
  have e : E / 2 ^ i = 2 * (E / 2 ^ (i + 1)) + E / 2 ^ i % 2 := by
    rw [Nat.pow_succ, ← Nat.div_div_eq_div_mul]; omega
  have h2 : E / 2 ^ i % 2 = 0 \/ E / 2 ^ i % 2 = 1 := by omega
  rw [← Nat.pow_add]
  rcases h2 with h | h
  . rw [h, if_neg (by omega), Nat.mul_one]; congr 1; omega
  . rw [h, if_pos rfl, ← Nat.pow_succ]; congr 1; omega
def Cg (a b : Nat) : Prop := a % RR = b % RR
theorem Cg.rfl' {a : Nat} : Cg a a := rfl
theorem Cg.symm {a b : Nat} (h : Cg a b) : Cg b a := Eq.symm h
theorem Cg.trans {a b c : Nat} (h : Cg a b) (g : Cg b c) : Cg a c := Eq.trans h g
theorem Cg.mul {a b c d : Nat} (h1 : Cg a b) (h2 : Cg c d) : Cg (a * c) (b * d) := by
  unfold Cg at *
  rw [Nat.mul_mod, h1, h2, ← Nat.mul_mod]
theorem Cg.add {a b c d : Nat} (h1 : Cg a b) (h2 : Cg c d) : Cg (a + c) (b + d) := by
  unfold Cg at *
  rw [Nat.add_mod, h1, h2, ← Nat.add_mod]
theorem Cg.pow {a b : Nat} (h1 : Cg a b) (n : Nat) : Cg (a ^ n) (b ^ n) := by
  induction n with
  | zero => exact Cg.rfl'
  | succ n ih => rw [Nat.pow_succ, Nat.pow_succ]; exact ih.mul h1
theorem Cg.mod (a : Nat) : Cg (a % RR) a := Nat.mod_mod _ _
theorem Cg.lt {a b : Nat} (h : Cg a b) (ha : a < RR) : a = b % RR := by
  unfold Cg at h
  rw [← h, Nat.mod_eq_of_lt ha]
theorem zzl {N : Nat} (hN : 10 < N) (a : Fr) (ha : fv a < RR) (e z : List UInt64) (he : e.length < 1000) : ∀ (i n : Nat) (x : Fr), i < n -> i <= 64 * e.length -> fv x < RR -> Cg (fv x) (fv a ^ (lv e / 2 ^ i)) ->
    znF N n e ((i : Int) - 1) a.l z x.l = some (frN (fv a ^ lv e % RR), ()) := by
  intro i
  induction i with
  | zero =>
    intro n x hn hi hx hx2
    obtain ⟨n, rfl⟩ : ∃ m, n = m + 1 := ⟨n - 1, by omega⟩
    rw [zhW]
    unfold znE
    rw [zaC (by omega), cond_false, show Fr.of? x.l = some x from rfl, show List.length x.l = 4 from rfl, show Nat.beq 4 4 = true from rfl]
    simp only [mst2, bsm]
    rw [Nat.pow_zero, Nat.div_one] at hx2
    have : x = frN (fv a ^ lv e % RR) := zh0 (hx2.lt hx)
    rw [← this]
  | succ i ih =>
    intro n x hn hi hx hx2
    obtain ⟨n, rfl⟩ : ∃ m, n = m + 1 := ⟨n - 1, by omega⟩
    have hpb := zwu (fv a) (lv e) i 0
    obtain ⟨b, h1, h2⟩ := zwk (N := N) (a := e) (i := i) (by omega)
    have hy2 : Cg (fv (frN (fv x * fv x % RR))) (fv a ^ (lv e / 2 ^ (i + 1)) * fv a ^ (lv e / 2 ^ (i + 1))) := by rw [zgI]; exact (Cg.mod _).trans (hx2.mul hx2)
    rw [zhW]
    unfold znE
    rw [show ((i + 1 : Nat) : Int) - 1 = (i : Int) by omega, zaw, cond_true, show Fr.of? x.l = some x from rfl, show Fr.of? a.l = some a from rfl, zeo (by omega) (by omega)]
    simp only [bsm]
    rw [zq3 hN hx]
    simp only [bsm]
    rw [h1]
    simp only [bsm]
    have hbb : (b == 1) = decide (lv e / 2 ^ i % 2 = 1) := by
      rw [Bool.eq_iff_iff, beq_iff_eq, decide_eq_true_iff, ← h2, ← UInt64.toNat_inj]
      rfl
    rw [hbb]
    by_cases hb : lv e / 2 ^ i % 2 = 1
    . rw [decide_eq_true hb, cond_true, zq3 hN ha]
      simp only [bsm]
      rw [if_pos hb] at hpb
      refine ih n _ (by omega) (by omega) (by rw [zgI]; exact zdi _) ?_
      rw [zgI, ← hpb]
      exact (Cg.mod _).trans (hy2.mul Cg.rfl')
    . rw [decide_eq_false hb, cond_false]
      rw [if_neg hb, Nat.mul_one] at hpb
      refine ih n _ (by omega) (by omega) (by rw [zgI]; exact zdi _) ?_
      rw [hpb] at hy2
      exact hy2
theorem zzm {N : Nat} {a : Fr} {e : List UInt64} (ha : fv a < RR) (he : 64 * e.length + 100 < N) (he2 : e.length < 1000) : q73 N a e = some (frN (fv a ^ lv e % RR), ()) := by
  unfold q73
  rw [show q173 N 1 = some ((⟨1, 0, 0, 0⟩ : Fr), ()) from rfl]
  simp only [bsm]
  rw [show wr (64 * (e.length : Int)) = ((64 * e.length : Nat) : Int) by rw [zeo (by omega) (by omega)]; omega, zeo (by omega) (by omega)]
  have hlt : lv e / 2 ^ (64 * e.length) = 0 := by
    apply Nat.div_eq_of_lt
    have := zhf e
    rw [Nat.pow_mul]
    exact this
  exact zzl (by omega) a ha e [0, 0, 0, 0] he2 (64 * e.length) N ⟨1, 0, 0, 0⟩ (by omega) (Nat.le_refl _) (by rw [ziY]; decide) (by rw [hlt, Nat.pow_zero, ziY]; exact Cg.rfl')
end
section
def nd (q : Nat) : Nat -> Nat -> Bool
  | 0, lo => !(Nat.beq (q % lo) 0)
  | k + 1, lo => nd q k lo && nd q k (lo + 2 ^ k)
end
section
theorem zag (x : Fr) : Fr.mk x.a0 x.a1 x.a2 x.a3 = x := rfl
theorem zah : Fr.mk 0 0 0 0 = Fr.zero := rfl
def eqF (x y : Fr) : Bool := decide (x = y)
theorem zti {x y : Fr} (h : x = y) : eqF x y = true := decide_eq_true h
theorem zq7 {x y : Fr} (h : x ≠ y) : eqF x y = false := decide_eq_false h
theorem zai (x y : Fr) : eqL El.u64 [x.a0, x.a1, x.a2, x.a3] [y.a0, y.a1, y.a2, y.a3] = eqF x y := zjZ x y
theorem zaj (x : Fr) (n : UInt64) : eqL El.u64 [x.a0, x.a1, x.a2, x.a3] [n, (0 : UInt64), (0 : UInt64), (0 : UInt64)] = eqF x ⟨n, 0, 0, 0⟩ := zjZ x ⟨n, 0, 0, 0⟩
def zBv (log : Nat) : Nat := 7 ^ ((RR - 1) / 2 ^ log) % RR
theorem zzn (N : Nat) (n : UInt64) : q75 N n = some ((⟨n, 0, 0, 0⟩ : Fr), ()) := rfl
theorem zlG (N : Nat) (n : UInt64) : q173 N n = some ((⟨n, 0, 0, 0⟩ : Fr), ()) := rfl
class Big (N : Nat) : Prop where
  h : 2000 <= N
instance : Big 2000 := ⟨Nat.le_refl _⟩
end
section
def q193 (N : Nat) (a0 : Fr) : Option (Fr × Unit) :=
  Option.bind (q76 N (a0) (a0)) fun rr0 => Option.bind (q76 N (rr0.1) (rr0.1)) fun rr1 => Option.bind (q76 N (rr1.1) (a0)) fun rr2 => some ((rr2.1, ()))
theorem zzo : p193 = q193 := by
  (repeat (apply funext; intro _))
  simp only [p193, q193, zwa, zag, zai, zaj, zah]
def q195 (N : Nat) (at0 : Int) (w1 : List Int) : Option (Row × Unit) :=
  must (leI (↑(3 : Nat) : Int) (↑w1.length : Int)) (must (leN ((0 : Nat) + (3 : Nat)) w1.length) (Option.bind (q75 N (1 : UInt64)) fun rr0 => cond (eqI at0 (↑(0 : Nat) : Int)) (must (eqI at0 (↑(0 : Nat) : Int)) (some ((Row.mk (rr0.1) (Fr.zero) (Fr.zero) (Fr.zero) (Fr.zero) (Fr.zero) (Fr.zero) (Fr.zero) (List.getD w1 (0 : Nat) (0 : Int)) (List.getD w1 ((0 : Nat) + (1 : Nat)) (0 : Int)) (List.getD w1 ((0 : Nat) + (1 : Nat) + (1 : Nat)) (0 : Int)), ())))) (cond (eqI at0 (↑((0 : Nat) + (1 : Nat)) : Int)) (must (eqI at0 (↑((0 : Nat) + (1 : Nat)) : Int)) (some ((Row.mk (Fr.zero) (rr0.1) (Fr.zero) (Fr.zero) (Fr.zero) (Fr.zero) (Fr.zero) (Fr.zero) (List.getD w1 (0 : Nat) (0 : Int)) (List.getD w1 ((0 : Nat) + (1 : Nat)) (0 : Int)) (List.getD w1 ((0 : Nat) + (1 : Nat) + (1 : Nat)) (0 : Int)), ())))) (cond (eqI at0 (↑((0 : Nat) + (1 : Nat) + (1 : Nat)) : Int)) (must (eqI at0 (↑((0 : Nat) + (1 : Nat) + (1 : Nat)) : Int)) (some ((Row.mk (Fr.zero) (Fr.zero) (rr0.1) (Fr.zero) (Fr.zero) (Fr.zero) (Fr.zero) (Fr.zero) (List.getD w1 (0 : Nat) (0 : Int)) (List.getD w1 ((0 : Nat) + (1 : Nat)) (0 : Int)) (List.getD w1 ((0 : Nat) + (1 : Nat) + (1 : Nat)) (0 : Int)), ())))) (cond (eqI at0 (↑((0 : Nat) + (1 : Nat) + (1 : Nat) + (1 : Nat)) : Int)) (must (eqI at0 (↑((0 : Nat) + (1 : Nat) + (1 : Nat) + (1 : Nat)) : Int)) (some ((Row.mk (Fr.zero) (Fr.zero) (Fr.zero) (rr0.1) (Fr.zero) (Fr.zero) (Fr.zero) (Fr.zero) (List.getD w1 (0 : Nat) (0 : Int)) (List.getD w1 ((0 : Nat) + (1 : Nat)) (0 : Int)) (List.getD w1 ((0 : Nat) + (1 : Nat) + (1 : Nat)) (0 : Int)), ())))) (cond (eqI at0 (↑((0 : Nat) + (1 : Nat) + (1 : Nat) + (1 : Nat) + (1 : Nat)) : Int)) (must (eqI at0 (↑((0 : Nat) + (1 : Nat) + (1 : Nat) + (1 : Nat) + (1 : Nat)) : Int)) (some ((Row.mk (Fr.zero) (Fr.zero) (Fr.zero) (Fr.zero) (rr0.1) (Fr.zero) (Fr.zero) (Fr.zero) (List.getD w1 (0 : Nat) (0 : Int)) (List.getD w1 ((0 : Nat) + (1 : Nat)) (0 : Int)) (List.getD w1 ((0 : Nat) + (1 : Nat) + (1 : Nat)) (0 : Int)), ())))) (cond (eqI at0 (↑((0 : Nat) + (1 : Nat) + (1 : Nat) + (1 : Nat) + (1 : Nat) + (1 : Nat)) : Int)) (must (eqI at0 (↑((0 : Nat) + (1 : Nat) + (1 : Nat) + (1 : Nat) + (1 : Nat) + (1 : Nat)) : Int)) (some ((Row.mk (Fr.zero) (Fr.zero) (Fr.zero) (Fr.zero) (Fr.zero) (rr0.1) (Fr.zero) (Fr.zero) (List.getD w1 (0 : Nat) (0 : Int)) (List.getD w1 ((0 : Nat) + (1 : Nat)) (0 : Int)) (List.getD w1 ((0 : Nat) + (1 : Nat) + (1 : Nat)) (0 : Int)), ())))) (cond (eqI at0 (↑((0 : Nat) + (1 : Nat) + (1 : Nat) + (1 : Nat) + (1 : Nat) + (1 : Nat) + (1 : Nat)) : Int)) (must (eqI at0 (↑((0 : Nat) + (1 : Nat) + (1 : Nat) + (1 : Nat) + (1 : Nat) + (1 : Nat) + (1 : Nat)) : Int)) (some ((Row.mk (Fr.zero) (Fr.zero) (Fr.zero) (Fr.zero) (Fr.zero) (Fr.zero) (rr0.1) (Fr.zero) (List.getD w1 (0 : Nat) (0 : Int)) (List.getD w1 ((0 : Nat) + (1 : Nat)) (0 : Int)) (List.getD w1 ((0 : Nat) + (1 : Nat) + (1 : Nat)) (0 : Int)), ())))) (must (eqI at0 (↑((0 : Nat) + (1 : Nat) + (1 : Nat) + (1 : Nat) + (1 : Nat) + (1 : Nat) + (1 : Nat) + (1 : Nat)) : Int)) (must (eqI at0 (↑((0 : Nat) + (1 : Nat) + (1 : Nat) + (1 : Nat) + (1 : Nat) + (1 : Nat) + (1 : Nat) + (1 : Nat)) : Int)) (some ((Row.mk (Fr.zero) (Fr.zero) (Fr.zero) (Fr.zero) (Fr.zero) (Fr.zero) (Fr.zero) (rr0.1) (List.getD w1 (0 : Nat) (0 : Int)) (List.getD w1 ((0 : Nat) + (1 : Nat)) (0 : Int)) (List.getD w1 ((0 : Nat) + (1 : Nat) + (1 : Nat)) (0 : Int)), ())))))))))))))
theorem zzp : p195 = q195 := by
  (repeat (apply funext; intro _))
  simp only [p195, q195, zyZ, zag, zai, zaj, zah]
def zh1 (N : Nat) (A_4 : (List Fr) -> Int -> (List Fr) -> Fr -> Fr -> Option (Fr × Unit)) (t37 : List Fr) (t38 : Int) (ob0 : List Fr) (ob1 ob2 : Fr) : Option (Fr × Unit) :=
  cond ((ltI t38 (8 : Int))) (must (leI (0 : Int) t38 && (ltI t38 (↑(8 : Nat) : Int) && ltI t38 (↑t37.length : Int))) (must (leI (0 : Int) t38 && ltI t38 (↑(8 : Nat) : Int)) (Option.bind (q76 N ((List.getD ob0 t38.toNat (Fr.zero))) ((List.getD t37 t38.toNat (Fr.zero)))) fun rr0 => Option.bind (q80 N (ob2) (rr0.1)) fun rr1 => A_4 t37 ((wr (t38 + (1 : Int)))) ob0 (ob1) (rr1.1)))) (some ((ob2, ())))
theorem ztj : zpR = zh1 := by
  (repeat (apply funext; intro _))
  simp only [zpR, zh1, hide_eq, zwa, zwh, zag, zai, zaj, zah]
def zh2 (N n : Nat) (t37 : List Fr) (t38 : Int) (ob0 : List Fr) (ob1 ob2 : Fr) : Option (Fr × Unit) :=
  zam (fun A x => zh1 N (fun t37 t38 ob0 ob1 ob2 => A (((), ((), ((), (t37, (t38, ()))))), (ob0, (ob1, (ob2, ()))))) x.1.2.2.2.1 x.1.2.2.2.2.1 x.2.1 x.2.2.1 x.2.2.2.1) n (((), ((), ((), (t37, (t38, ()))))), (ob0, (ob1, (ob2, ()))))
theorem ztk : zpS = zh2 := by
  (repeat (apply funext; intro _))
  simp only [zpS, zh2, ztj, zag, zai, zaj, zah]
theorem zgK (N n : Nat) (t37 : List Fr) (t38 : Int) (ob0 : List Fr) (ob1 ob2 : Fr) : zh2 N (n + 1) t37 t38 ob0 ob1 ob2 = zh1 N (zh2 N n) t37 t38 ob0 ob1 ob2 := rfl
def q106 (N : Nat) (q0 : List Fr) (a1 b2 c3 next4 : Fr) : Option (Fr × Unit) :=
  must (Nat.beq q0.length (8 : Nat)) (Option.bind (q76 N (a1) (b2)) fun rr0 => Option.bind (q75 N (1 : UInt64)) fun rr1 => Option.bind (q76 N (a1) (a1)) fun rr2 => Option.bind (q82 N (rr2.1) (a1)) fun rr3 => Option.bind (q193 N (a1)) fun rr4 => Option.bind (q82 N (rr4.1) (c3)) fun rr5 => Option.bind (q80 N (a1) (b2)) fun rr6 => Option.bind (q82 N (rr6.1) (next4)) fun rr7 => zh2 N N ([rr0.1, a1, b2, c3, rr1.1, rr3.1, rr5.1, rr7.1]) (0 : Int) q0 (Fr.zero) (Fr.zero))
theorem zzq : p106 = q106 := by
  (repeat (apply funext; intro _))
  simp only [p106, q106, ztk, zzo, zyZ, zwa, zwh, zy2, zag, zai, zaj, zah]
def q108 (N : Nat) (s0 : Stp) : Option (List Row × Int × Unit) :=
  cond ((eqI s0.kind (1 : Int))) (cond ((eqI s0.kind (1 : Int))) (some (([], (0 : Int), ()))) (cond ((eqI s0.kind (2 : Int))) (some (([Row.mk (s0.q0) (s0.q1) (s0.q2) (s0.q3) (s0.q4) (Fr.zero) (Fr.zero) (Fr.zero) (mxI s0.v0 (-1 : Int)) (mxI s0.v1 (-1 : Int)) (mxI s0.v2 (-1 : Int))], (0 : Int), ()))) (cond ((eqI s0.kind (3 : Int))) (Option.bind (q195 N (5 : Int) ([Stp.v0 s0, (-1 : Int), (-1 : Int)])) fun rr7 => some (([rr7.1], (0 : Int), ()))) (cond ((eqI s0.kind (4 : Int))) (Option.bind (q195 N (6 : Int) ([Stp.v0 s0, (-1 : Int), Stp.v2 s0])) fun rr6 => some (([rr6.1], (0 : Int), ()))) (cond ((eqI s0.kind (5 : Int))) (Option.bind (q195 N (7 : Int) ([Stp.v0 s0, Stp.v1 s0, (-1 : Int)])) fun rr5 => some (([rr5.1, Row.mk (Fr.zero) (Fr.zero) (Fr.zero) (Fr.zero) (Fr.zero) (Fr.zero) (Fr.zero) (Fr.zero) s0.v2 (-1 : Int) (-1 : Int)], (0 : Int), ()))) (cond ((eqI s0.kind (7 : Int))) (Option.bind (q195 N (1 : Int) ([Stp.v0 s0, (-1 : Int), (-1 : Int)])) fun rr4 => some (([rr4.1], (0 : Int), ()))) (some (([], (11 : Int), ()))))))))) (cond ((eqI s0.kind (6 : Int))) (some (([], (0 : Int), ()))) (cond ((eqI s0.kind (2 : Int))) (some (([Row.mk (s0.q0) (s0.q1) (s0.q2) (s0.q3) (s0.q4) (Fr.zero) (Fr.zero) (Fr.zero) (mxI s0.v0 (-1 : Int)) (mxI s0.v1 (-1 : Int)) (mxI s0.v2 (-1 : Int))], (0 : Int), ()))) (cond ((eqI s0.kind (3 : Int))) (Option.bind (q195 N (5 : Int) ([Stp.v0 s0, (-1 : Int), (-1 : Int)])) fun rr3 => some (([rr3.1], (0 : Int), ()))) (cond ((eqI s0.kind (4 : Int))) (Option.bind (q195 N (6 : Int) ([Stp.v0 s0, (-1 : Int), Stp.v2 s0])) fun rr2 => some (([rr2.1], (0 : Int), ()))) (cond ((eqI s0.kind (5 : Int))) (Option.bind (q195 N (7 : Int) ([Stp.v0 s0, Stp.v1 s0, (-1 : Int)])) fun rr1 => some (([rr1.1, Row.mk (Fr.zero) (Fr.zero) (Fr.zero) (Fr.zero) (Fr.zero) (Fr.zero) (Fr.zero) (Fr.zero) s0.v2 (-1 : Int) (-1 : Int)], (0 : Int), ()))) (cond ((eqI s0.kind (7 : Int))) (Option.bind (q195 N (1 : Int) ([Stp.v0 s0, (-1 : Int), (-1 : Int)])) fun rr0 => some (([rr0.1], (0 : Int), ()))) (some (([], (11 : Int), ())))))))))
theorem zzr : p108 = q108 := by
  (repeat (apply funext; intro _))
  simp only [p108, q108, hide_eq, zzp, zag, zai, zaj, zah]
end
section
def Sc (x : Fr) : Prop := fv x < RR
def fmul (x y : Fr) : Fr := frN (fv x * fv y % RR)
def fadd (x y : Fr) : Fr := frN ((fv x + fv y) % RR)
def fsub (x y : Fr) : Fr := frN ((fv x + (RR - fv y)) % RR)
theorem zuy (n : Nat) : Sc (frN (n % RR)) := by unfold Sc; rw [zgI]; exact zdi _
theorem zj0 (x y : Fr) : Sc (fmul x y) := zuy _
theorem zq8 (x y : Fr) : Sc (fadd x y) := zuy _
theorem zaz : Sc Fr.zero := by unfold Sc; decide +kernel
theorem fvz : fv Fr.zero = 0 := zgJ
theorem mulF {N : Nat} (hN : 10 < N) {a b : Fr} (ha : Sc a) : q76 N a b = some (fmul a b, ()) := zwt hN ha
theorem mulR {N : Nat} (hN : 10 < N) {a b : Fr} (hb : Sc b) : q94 N a b = some (fmul a b, ()) := zq3 hN hb
theorem addF {N : Nat} (hN : 10 < N) {a b : Fr} (ha : Sc a) (hb : Sc b) : q80 N a b = some (fadd a b, ()) := zzg hN ha hb
theorem addR {N : Nat} (hN : 10 < N) {a b : Fr} (ha : Sc a) (hb : Sc b) : q81 N a b = some (fadd a b, ()) := zzh hN ha hb
theorem subF {N : Nat} (hN : 10 < N) {a b : Fr} (ha : Sc a) (hb : Sc b) : q82 N a b = some (fsub a b, ()) := zuu hN ha hb
def vsum (q t : List Fr) : Nat -> Nat -> Fr -> Fr
  | 0, _, s => s
  | k + 1, i, s => vsum q t k (i + 1) (fadd s (fmul (q.getD i Fr.zero) (t.getD i Fr.zero)))
theorem zwv (N : Nat) (hN : 10 < N) (q t : List Fr) (z : Fr) (hq : q.length = 8) (ht : t.length = 8) (hs : ∀ i, Sc (q.getD i Fr.zero)) : ∀ (k n i : Nat) (s : Fr), i + k = 8 -> k < n -> Sc s -> zh2 N n t (i : Int) q z s = some (vsum q t k i s, ()) := by
  intro k
  induction k with
  | zero =>
    intro n i s hi hn hss
    obtain ⟨n, rfl⟩ : ∃ m, n = m + 1 := ⟨n - 1, by omega⟩
    rw [zgK]
    unfold zh1
    rw [zab (by omega), cond_false]
    rfl
  | succ k ih =>
    intro n i s hi hn hss
    obtain ⟨n, rfl⟩ : ∃ m, n = m + 1 := ⟨n - 1, by omega⟩
    rw [zgK]
    unfold zh1
    rw [zad (show (i : Int) < 8 by omega), cond_true, zaw, ht, zad (show (i : Int) < ((8 : Nat) : Int) by omega), Bool.and_self, Bool.and_self, mst2, mst2, Int.toNat_natCast, mulF hN (hs i)]
    simp only [bsm]
    rw [addF hN hss (zj0 _ _), zay (by omega)]
    exact ih n (i + 1) _ (by omega) (by omega) (zq8 _ _)
def wl (a b c nx : Fr) : List Fr := [fmul a b, a, b, c, ⟨1, 0, 0, 0⟩, fsub (fmul a a) a, fsub (fmul (fmul (fmul a a) (fmul a a)) a) c, fsub (fadd a b) nx]
def gval (q : List Fr) (a b c nx : Fr) : Fr := vsum q (wl a b c nx) 8 0 Fr.zero
theorem zww {N : Nat} (hN : 10 < N) {a : Fr} (ha : Sc a) : q193 N a = some (fmul (fmul (fmul a a) (fmul a a)) a, ()) := by
  unfold q193
  rw [mulF hN ha]
  simp only [bsm]
  rw [mulF hN (zj0 _ _)]
  simp only [bsm]
  rw [mulF hN (zj0 _ _)]
  simp only [bsm]
theorem zwx {N : Nat} (hN : 10 < N) {q : List Fr} {a b c nx : Fr} (hq : q.length = 8) (hs : ∀ i, Sc (q.getD i Fr.zero)) (ha : Sc a) (hb : Sc b) (hc : Sc c) (hn : Sc nx) : q106 N q a b c nx = some (gval q a b c nx, ()) := by
  unfold q106
  rw [hq, show Nat.beq 8 8 = true from rfl, mst2, mulF hN ha, zzn, mulF hN ha]
  simp only [bsm]
  rw [subF hN (zj0 _ _) ha, zww hN ha]
  simp only [bsm]
  rw [subF hN (zj0 _ _) hc, addF hN ha hb]
  simp only [bsm]
  rw [subF hN (zq8 _ _) hn]
  simp only [bsm]
  exact zwv N hN q (wl a b c nx) Fr.zero hq rfl hs 8 N 0 Fr.zero rfl (by omega) zaz
theorem zwy (q t : List Fr) : ∀ (k i : Nat) (s : Fr), Sc s -> Sc (vsum q t k i s) := by
  intro k
  induction k with
  | zero => intro i s h; exact h
  | succ k ih => intro i s h; exact ih (i + 1) _ (zq8 _ _)
theorem zwz (q : List Fr) (a b c nx : Fr) : Sc (gval q a b c nx) := zwy _ _ _ _ _ zaz
end
section
theorem sh1 {L : Nat} (h : L <= 6) : shlI 1 (UInt64.toNat (u64I (L : Int))) = ((2 ^ L : Nat) : Int) := by
  have : ∀ k : Fin 7, shlI 1 (UInt64.toNat (u64I (k.val : Int))) = ((2 ^ k.val : Nat) : Int) := by decide +kernel
  exact this ⟨L, by omega⟩
theorem zeS {L : Nat} (h : L <= 6) : 2 ^ L <= 64 := Nat.pow_le_pow_right (by decide) h
theorem zgL (L : Nat) : 0 < 2 ^ L := Nat.pow_pos (by decide)
def nm (L x : Nat) : Fr := fmul (frN (7 ^ (x / 2 ^ L) % RR)) (frN (zBv L ^ (x % 2 ^ L) % RR))
def pre (l : List Fr) : Nat -> Nat
  | 0 => 1
  | i + 1 => pre l i * fv (l.getD i Fr.zero)
end
section
def zh3 (N : Nat) (A_2 : (List Row) -> Int -> Int -> Option (Bool × Unit)) (A_5 : (List Row) -> Int -> Int -> (List Fr) -> Int -> Option (Bool × Unit)) (t8 : List Row) (t9 t10 : Int) (t15 : List Fr) (t16 : Int) : Option (Bool × Unit) :=
  cond ((ltI t16 (8 : Int))) (must (leI (0 : Int) t16 && (ltI t16 (↑(8 : Nat) : Int) && ltI t16 (↑t15.length : Int))) (Option.bind (q79 N ((List.getD t15 t16.toNat (Fr.zero)))) fun r0 => cond (!r0.1) (some ((false, ()))) (A_5 t8 t9 t10 t15 ((wr (t16 + (1 : Int))))))) (A_2 t8 t9 ((wr (t10 + (1 : Int)))))
theorem ztl : zpV = zh3 := by
  (repeat (apply funext; intro _))
  simp only [zpV, zh3, hide_eq, zBr, zag, zai, zaj, zah]
def zes (N : Nat) (A_2 : (List Row) -> Int -> Int -> Option (Bool × Unit)) (n : Nat) (t8 : List Row) (t9 t10 : Int) (t15 : List Fr) (t16 : Int) : Option (Bool × Unit) :=
  zam (fun A x => zh3 N A_2 (fun t8 t9 t10 t15 t16 => A ((t8, (t9, (t10, (t15, (t16, ()))))), ())) x.1.1 x.1.2.1 x.1.2.2.1 x.1.2.2.2.1 x.1.2.2.2.2.1) n ((t8, (t9, (t10, (t15, (t16, ()))))), ())
theorem ztm : zpW = zes := by
  (repeat (apply funext; intro _))
  simp only [zpW, zes, ztl, zag, zai, zaj, zah]
theorem zgM (N : Nat) (A_2 : (List Row) -> Int -> Int -> Option (Bool × Unit)) (n : Nat) (t8 : List Row) (t9 t10 : Int) (t15 : List Fr) (t16 : Int) : zes N A_2 (n + 1) t8 t9 t10 t15 t16 = zh3 N A_2 (zes N A_2 n) t8 t9 t10 t15 t16 := rfl
def zh4 (N : Nat) (A_2 : (List Row) -> Int -> Int -> Option (Bool × Unit)) (t8 : List Row) (t9 t10 : Int) : Option (Bool × Unit) :=
  cond ((ltI t10 t9)) (must (leI (0 : Int) t10 && ltI t10 (↑t8.length : Int)) (zes N A_2 N t8 t9 t10 ([(Row.q0 (List.getD t8 t10.toNat zrow)), (Row.q1 (List.getD t8 t10.toNat zrow)), (Row.q2 (List.getD t8 t10.toNat zrow)), (Row.q3 (List.getD t8 t10.toNat zrow)), (Row.q4 (List.getD t8 t10.toNat zrow)), (Row.q5 (List.getD t8 t10.toNat zrow)), (Row.q6 (List.getD t8 t10.toNat zrow)), (Row.q7 (List.getD t8 t10.toNat zrow))]) (0 : Int))) (some ((true, ())))
theorem ztn : zpX = zh4 := by
  (repeat (apply funext; intro _))
  simp only [zpX, zh4, hide_eq, ztm, zag, zai, zaj, zah]
def zh5 (N n : Nat) (t8 : List Row) (t9 t10 : Int) : Option (Bool × Unit) :=
  zam (fun A x => zh4 N (fun t8 t9 t10 => A ((t8, (t9, (t10, ()))), ())) x.1.1 x.1.2.1 x.1.2.2.1) n ((t8, (t9, (t10, ()))), ())
theorem zto : zpY = zh5 := by
  (repeat (apply funext; intro _))
  simp only [zpY, zh5, ztn, zag, zai, zaj, zah]
theorem zgN (N n : Nat) (t8 : List Row) (t9 t10 : Int) : zh5 N (n + 1) t8 t9 t10 = zh4 N (zh5 N n) t8 t9 t10 := rfl
def q200 (N : Nat) (c0 v1 : Int) (v2 : List Row) (v3 : List Pr) : Option (Bool × Unit) :=
  zh5 N N v2 ((↑v2.length : Int)) (0 : Int)
theorem zzs : p200 = q200 := by
  (repeat (apply funext; intro _))
  simp only [p200, q200, zto, zag, zai, zaj, zah]
def zeT (N : Nat) (A_12 : (List Pr) -> Int -> Int -> Int -> Int -> (List Row) -> (List Pr) -> Option (Bool × Unit)) (t28 : List Pr) (t29 t30 ob0_0 ob0_1 : Int) (ob0_2 : List Row) (ob0_3 : List Pr) : Option (Bool × Unit) :=
  cond ((ltI t30 t29)) (must (leI (0 : Int) t30 && ltI t30 (↑t28.length : Int)) (cond ((ltI (mnI (Pr.x (List.getD t28 t30.toNat (Pr.mk (0 : Int) (0 : Int)))) (Pr.y (List.getD t28 t30.toNat (Pr.mk (0 : Int) (0 : Int))))) (0 : Int))) (some ((false, ()))) (cond ((leI ob0_1 (mxI (Pr.x (List.getD t28 t30.toNat (Pr.mk (0 : Int) (0 : Int)))) (Pr.y (List.getD t28 t30.toNat (Pr.mk (0 : Int) (0 : Int))))))) (some ((false, ()))) (A_12 t28 t29 ((wr (t30 + (1 : Int)))) ob0_0 ob0_1 ob0_2 ob0_3)))) (some ((true, ())))
theorem zq9 : zlk = zeT := by
  (repeat (apply funext; intro _))
  simp only [zlk, zeT, hide_eq, zag, zai, zaj, zah]
def zdW (N n : Nat) (t28 : List Pr) (t29 t30 ob0_0 ob0_1 : Int) (ob0_2 : List Row) (ob0_3 : List Pr) : Option (Bool × Unit) :=
  zam (fun A x => zeT N (fun t28 t29 t30 ob0_0 ob0_1 ob0_2 ob0_3 => A (((), (t28, (t29, (t30, ())))), ((ob0_0, (ob0_1, (ob0_2, (ob0_3, ())))), ()))) x.1.2.1 x.1.2.2.1 x.1.2.2.2.1 x.2.1.1 x.2.1.2.1 x.2.1.2.2.1 x.2.1.2.2.2.1) n (((), (t28, (t29, (t30, ())))), ((ob0_0, (ob0_1, (ob0_2, (ob0_3, ())))), ()))
theorem zra : zll = zdW := by
  (repeat (apply funext; intro _))
  simp only [zll, zdW, zq9, zag, zai, zaj, zah]
theorem zfk (N n : Nat) (t28 : List Pr) (t29 t30 ob0_0 ob0_1 : Int) (ob0_2 : List Row) (ob0_3 : List Pr) : zdW N (n + 1) t28 t29 t30 ob0_0 ob0_1 ob0_2 ob0_3 = zeT N (zdW N n) t28 t29 t30 ob0_0 ob0_1 ob0_2 ob0_3 := rfl
def zh6 (N : Nat) (A_2 : (List Row) -> Int -> Int -> Int -> Int -> (List Row) -> (List Pr) -> Option (Bool × Unit)) (A_5 : (List Row) -> Int -> Int -> (List Int) -> Int -> Int -> Int -> (List Row) -> (List Pr) -> Option (Bool × Unit)) (t10 : List Row) (t11 t12 : Int) (t17 : List Int) (t18 ob0_0 ob0_1 : Int) (ob0_2 : List Row) (ob0_3 : List Pr) : Option (Bool × Unit) :=
  cond ((ltI t18 (3 : Int))) (must (leI (0 : Int) t18 && (ltI t18 (↑(3 : Nat) : Int) && ltI t18 (↑t17.length : Int))) (cond ((leI ob0_1 (List.getD t17 t18.toNat (0 : Int)))) (some ((false, ()))) (A_5 t10 t11 t12 t17 ((wr (t18 + (1 : Int)))) ob0_0 ob0_1 ob0_2 ob0_3))) (A_2 t10 t11 ((wr (t12 + (1 : Int)))) ob0_0 ob0_1 ob0_2 ob0_3)
theorem ztp : zp0 = zh6 := by
  (repeat (apply funext; intro _))
  simp only [zp0, zh6, hide_eq, zag, zai, zaj, zah]
def zet (N : Nat) (A_2 : (List Row) -> Int -> Int -> Int -> Int -> (List Row) -> (List Pr) -> Option (Bool × Unit)) (n : Nat) (t10 : List Row) (t11 t12 : Int) (t17 : List Int) (t18 ob0_0 ob0_1 : Int) (ob0_2 : List Row) (ob0_3 : List Pr) : Option (Bool × Unit) :=
  zam (fun A x => zh6 N A_2 (fun t10 t11 t12 t17 t18 ob0_0 ob0_1 ob0_2 ob0_3 => A (((), (t10, (t11, (t12, (t17, (t18, ())))))), ((ob0_0, (ob0_1, (ob0_2, (ob0_3, ())))), ()))) x.1.2.1 x.1.2.2.1 x.1.2.2.2.1 x.1.2.2.2.2.1 x.1.2.2.2.2.2.1 x.2.1.1 x.2.1.2.1 x.2.1.2.2.1 x.2.1.2.2.2.1) n (((), (t10, (t11, (t12, (t17, (t18, ())))))), ((ob0_0, (ob0_1, (ob0_2, (ob0_3, ())))), ()))
theorem ztq : zp1 = zet := by
  (repeat (apply funext; intro _))
  simp only [zp1, zet, ztp, zag, zai, zaj, zah]
theorem zgO (N : Nat) (A_2 : (List Row) -> Int -> Int -> Int -> Int -> (List Row) -> (List Pr) -> Option (Bool × Unit)) (n : Nat) (t10 : List Row) (t11 t12 : Int) (t17 : List Int) (t18 ob0_0 ob0_1 : Int) (ob0_2 : List Row) (ob0_3 : List Pr) : zet N A_2 (n + 1) t10 t11 t12 t17 t18 ob0_0 ob0_1 ob0_2 ob0_3 = zh6 N A_2 (zet N A_2 n) t10 t11 t12 t17 t18 ob0_0 ob0_1 ob0_2 ob0_3 := rfl
def zh7 (N : Nat) (A_2 : (List Row) -> Int -> Int -> Int -> Int -> (List Row) -> (List Pr) -> Option (Bool × Unit)) (t10 : List Row) (t11 t12 ob0_0 ob0_1 : Int) (ob0_2 : List Row) (ob0_3 : List Pr) : Option (Bool × Unit) :=
  cond ((ltI t12 t11)) (must (leI (0 : Int) t12 && ltI t12 (↑t10.length : Int)) (zet N A_2 N t10 t11 t12 ([Row.w0 (List.getD t10 t12.toNat zrow), Row.w1 (List.getD t10 t12.toNat zrow), Row.w2 (List.getD t10 t12.toNat zrow)]) (0 : Int) ob0_0 ob0_1 ob0_2 ob0_3)) (zdW N N ob0_3 ((↑ob0_3.length : Int)) (0 : Int) ob0_0 ob0_1 ob0_2 ob0_3)
theorem ztr : zp2 = zh7 := by
  (repeat (apply funext; intro _))
  simp only [zp2, zh7, hide_eq, zra, ztq, zag, zai, zaj, zah]
def zh8 (N n : Nat) (t10 : List Row) (t11 t12 ob0_0 ob0_1 : Int) (ob0_2 : List Row) (ob0_3 : List Pr) : Option (Bool × Unit) :=
  zam (fun A x => zh7 N (fun t10 t11 t12 ob0_0 ob0_1 ob0_2 ob0_3 => A (((), (t10, (t11, (t12, ())))), ((ob0_0, (ob0_1, (ob0_2, (ob0_3, ())))), ()))) x.1.2.1 x.1.2.2.1 x.1.2.2.2.1 x.2.1.1 x.2.1.2.1 x.2.1.2.2.1 x.2.1.2.2.2.1) n (((), (t10, (t11, (t12, ())))), ((ob0_0, (ob0_1, (ob0_2, (ob0_3, ())))), ()))
theorem zts : zp3 = zh8 := by
  (repeat (apply funext; intro _))
  simp only [zp3, zh8, ztr, zag, zai, zaj, zah]
theorem zgP (N n : Nat) (t10 : List Row) (t11 t12 ob0_0 ob0_1 : Int) (ob0_2 : List Row) (ob0_3 : List Pr) : zh8 N (n + 1) t10 t11 t12 ob0_0 ob0_1 ob0_2 ob0_3 = zh7 N (zh8 N n) t10 t11 t12 ob0_0 ob0_1 ob0_2 ob0_3 := rfl
def q201 (N : Nat) (c0 v1 : Int) (v2 : List Row) (v3 : List Pr) : Option (Bool × Unit) :=
  zh8 N N v2 ((↑v2.length : Int)) (0 : Int) c0 v1 v2 v3
theorem zzt : p201 = q201 := by
  (repeat (apply funext; intro _))
  simp only [p201, q201, zts, zag, zai, zaj, zah]
def q220 (N : Nat) (r0 : Row) : Option (Bool × Unit) :=
  Option.bind (q108 N (Stp.mk (7 : Int) r0.w0 (0 : Int) (0 : Int) (Fr.zero) (Fr.zero) (Fr.zero) (Fr.zero) (Fr.zero))) fun rr0 => cond ((leI (0 : Int) r0.w0)) (must (ltI (0 : Int) (↑rr0.1.length : Int)) (some (((zaX r0 (List.getD rr0.1 (0 : Nat) zrow)), ())))) (some ((false, ())))
theorem zzu : p220 = q220 := by
  (repeat (apply funext; intro _))
  simp only [p220, q220, hide_eq, zzr, zag, zai, zaj, zah]
def zh9 (N : Nat) (A_2 : (List Row) -> Int -> Int -> Int -> Int -> (List Row) -> (List Pr) -> Option (Bool × Unit)) (t6 : List Row) (t7 t8 ob0_0 ob0_1 : Int) (ob0_2 : List Row) (ob0_3 : List Pr) : Option (Bool × Unit) :=
  cond ((ltI t8 t7)) (must (leI (0 : Int) t8 && ltI t8 (↑t6.length : Int)) (cond ((ltI t8 ob0_0)) (Option.bind (q220 N (Row.mk ((Row.q0 (List.getD t6 t8.toNat zrow))) ((Row.q1 (List.getD t6 t8.toNat zrow))) ((Row.q2 (List.getD t6 t8.toNat zrow))) ((Row.q3 (List.getD t6 t8.toNat zrow))) ((Row.q4 (List.getD t6 t8.toNat zrow))) ((Row.q5 (List.getD t6 t8.toNat zrow))) ((Row.q6 (List.getD t6 t8.toNat zrow))) ((Row.q7 (List.getD t6 t8.toNat zrow))) (Row.w0 (List.getD t6 t8.toNat zrow)) (Row.w1 (List.getD t6 t8.toNat zrow)) (Row.w2 (List.getD t6 t8.toNat zrow)))) fun r0 => cond (!r0.1) (some ((false, ()))) (cond ((ltI (mnI (mnI (Row.w0 (List.getD t6 t8.toNat zrow)) (Row.w1 (List.getD t6 t8.toNat zrow))) (Row.w2 (List.getD t6 t8.toNat zrow))) (-1 : Int))) (some ((false, ()))) (A_2 t6 t7 ((wr (t8 + (1 : Int)))) ob0_0 ob0_1 ob0_2 ob0_3))) (cond ((ltI (mnI (mnI (Row.w0 (List.getD t6 t8.toNat zrow)) (Row.w1 (List.getD t6 t8.toNat zrow))) (Row.w2 (List.getD t6 t8.toNat zrow))) (-1 : Int))) (some ((false, ()))) (A_2 t6 t7 ((wr (t8 + (1 : Int)))) ob0_0 ob0_1 ob0_2 ob0_3)))) (some ((true, ())))
theorem ztt : zp6 = zh9 := by
  (repeat (apply funext; intro _))
  simp only [zp6, zh9, hide_eq, zzu, zag, zai, zaj, zah]
def zia (N n : Nat) (t6 : List Row) (t7 t8 ob0_0 ob0_1 : Int) (ob0_2 : List Row) (ob0_3 : List Pr) : Option (Bool × Unit) :=
  zam (fun A x => zh9 N (fun t6 t7 t8 ob0_0 ob0_1 ob0_2 ob0_3 => A (((), (t6, (t7, (t8, ())))), ((ob0_0, (ob0_1, (ob0_2, (ob0_3, ())))), ()))) x.1.2.1 x.1.2.2.1 x.1.2.2.2.1 x.2.1.1 x.2.1.2.1 x.2.1.2.2.1 x.2.1.2.2.2.1) n (((), (t6, (t7, (t8, ())))), ((ob0_0, (ob0_1, (ob0_2, (ob0_3, ())))), ()))
theorem ztu : zp7 = zia := by
  (repeat (apply funext; intro _))
  simp only [zp7, zia, ztt, zag, zai, zaj, zah]
theorem zgQ (N n : Nat) (t6 : List Row) (t7 t8 ob0_0 ob0_1 : Int) (ob0_2 : List Row) (ob0_3 : List Pr) : zia N (n + 1) t6 t7 t8 ob0_0 ob0_1 ob0_2 ob0_3 = zh9 N (zia N n) t6 t7 t8 ob0_0 ob0_1 ob0_2 ob0_3 := rfl
def q202 (N : Nat) (c0 v1 : Int) (v2 : List Row) (v3 : List Pr) : Option (Bool × Unit) :=
  zia N N v2 ((↑v2.length : Int)) (0 : Int) c0 v1 v2 v3
theorem zzv : p202 = q202 := by
  (repeat (apply funext; intro _))
  simp only [p202, q202, ztu, zag, zai, zaj, zah]
def q119 (N : Nat) (c0 v1 : Int) (v2 : List Row) (v3 : List Pr) : Option (Int × Unit) :=
  cond ((ltI (8 : Int) c0)) (cond ((ltI (8 : Int) c0)) (some (((8 : Int), ()))) (cond ((ltI c0 (0 : Int))) (cond ((ltI c0 (0 : Int))) (some (((1 : Int), ()))) (Option.bind (q200 N c0 v1 v2 v3) fun r33 => cond (!r33.1) (some (((4 : Int), ()))) (Option.bind (q201 N c0 v1 v2 v3) fun r34 => cond (!r34.1) (some (((10 : Int), ()))) (Option.bind (q202 N c0 v1 v2 v3) fun r35 => cond (!r35.1) (some (((3 : Int), ()))) (some (((0 : Int), ()))))))) (cond ((ltI v1 (0 : Int))) (cond ((ltI v1 (0 : Int))) (some (((1 : Int), ()))) (Option.bind (q200 N c0 v1 v2 v3) fun r30 => cond (!r30.1) (some (((4 : Int), ()))) (Option.bind (q201 N c0 v1 v2 v3) fun r31 => cond (!r31.1) (some (((10 : Int), ()))) (Option.bind (q202 N c0 v1 v2 v3) fun r32 => cond (!r32.1) (some (((3 : Int), ()))) (some (((0 : Int), ()))))))) (cond ((ltI (↑v2.length : Int) c0)) (some (((1 : Int), ()))) (Option.bind (q200 N c0 v1 v2 v3) fun r27 => cond (!r27.1) (some (((4 : Int), ()))) (Option.bind (q201 N c0 v1 v2 v3) fun r28 => cond (!r28.1) (some (((10 : Int), ()))) (Option.bind (q202 N c0 v1 v2 v3) fun r29 => cond (!r29.1) (some (((3 : Int), ()))) (some (((0 : Int), ())))))))))) (cond ((ltI (200 : Int) v1)) (cond ((ltI (200 : Int) v1)) (some (((8 : Int), ()))) (cond ((ltI c0 (0 : Int))) (cond ((ltI c0 (0 : Int))) (some (((1 : Int), ()))) (Option.bind (q200 N c0 v1 v2 v3) fun r24 => cond (!r24.1) (some (((4 : Int), ()))) (Option.bind (q201 N c0 v1 v2 v3) fun r25 => cond (!r25.1) (some (((10 : Int), ()))) (Option.bind (q202 N c0 v1 v2 v3) fun r26 => cond (!r26.1) (some (((3 : Int), ()))) (some (((0 : Int), ()))))))) (cond ((ltI v1 (0 : Int))) (cond ((ltI v1 (0 : Int))) (some (((1 : Int), ()))) (Option.bind (q200 N c0 v1 v2 v3) fun r21 => cond (!r21.1) (some (((4 : Int), ()))) (Option.bind (q201 N c0 v1 v2 v3) fun r22 => cond (!r22.1) (some (((10 : Int), ()))) (Option.bind (q202 N c0 v1 v2 v3) fun r23 => cond (!r23.1) (some (((3 : Int), ()))) (some (((0 : Int), ()))))))) (cond ((ltI (↑v2.length : Int) c0)) (some (((1 : Int), ()))) (Option.bind (q200 N c0 v1 v2 v3) fun r18 => cond (!r18.1) (some (((4 : Int), ()))) (Option.bind (q201 N c0 v1 v2 v3) fun r19 => cond (!r19.1) (some (((10 : Int), ()))) (Option.bind (q202 N c0 v1 v2 v3) fun r20 => cond (!r20.1) (some (((3 : Int), ()))) (some (((0 : Int), ())))))))))) (cond ((ltI (64 : Int) (↑v2.length : Int))) (cond ((ltI (64 : Int) (↑v2.length : Int))) (some (((8 : Int), ()))) (cond ((ltI c0 (0 : Int))) (cond ((ltI c0 (0 : Int))) (some (((1 : Int), ()))) (Option.bind (q200 N c0 v1 v2 v3) fun r15 => cond (!r15.1) (some (((4 : Int), ()))) (Option.bind (q201 N c0 v1 v2 v3) fun r16 => cond (!r16.1) (some (((10 : Int), ()))) (Option.bind (q202 N c0 v1 v2 v3) fun r17 => cond (!r17.1) (some (((3 : Int), ()))) (some (((0 : Int), ()))))))) (cond ((ltI v1 (0 : Int))) (cond ((ltI v1 (0 : Int))) (some (((1 : Int), ()))) (Option.bind (q200 N c0 v1 v2 v3) fun r12 => cond (!r12.1) (some (((4 : Int), ()))) (Option.bind (q201 N c0 v1 v2 v3) fun r13 => cond (!r13.1) (some (((10 : Int), ()))) (Option.bind (q202 N c0 v1 v2 v3) fun r14 => cond (!r14.1) (some (((3 : Int), ()))) (some (((0 : Int), ()))))))) (cond ((ltI (↑v2.length : Int) c0)) (some (((1 : Int), ()))) (Option.bind (q200 N c0 v1 v2 v3) fun r9 => cond (!r9.1) (some (((4 : Int), ()))) (Option.bind (q201 N c0 v1 v2 v3) fun r10 => cond (!r10.1) (some (((10 : Int), ()))) (Option.bind (q202 N c0 v1 v2 v3) fun r11 => cond (!r11.1) (some (((3 : Int), ()))) (some (((0 : Int), ())))))))))) (cond ((ltI (200 : Int) (↑v3.length : Int))) (some (((8 : Int), ()))) (cond ((ltI c0 (0 : Int))) (cond ((ltI c0 (0 : Int))) (some (((1 : Int), ()))) (Option.bind (q200 N c0 v1 v2 v3) fun r6 => cond (!r6.1) (some (((4 : Int), ()))) (Option.bind (q201 N c0 v1 v2 v3) fun r7 => cond (!r7.1) (some (((10 : Int), ()))) (Option.bind (q202 N c0 v1 v2 v3) fun r8 => cond (!r8.1) (some (((3 : Int), ()))) (some (((0 : Int), ()))))))) (cond ((ltI v1 (0 : Int))) (cond ((ltI v1 (0 : Int))) (some (((1 : Int), ()))) (Option.bind (q200 N c0 v1 v2 v3) fun r3 => cond (!r3.1) (some (((4 : Int), ()))) (Option.bind (q201 N c0 v1 v2 v3) fun r4 => cond (!r4.1) (some (((10 : Int), ()))) (Option.bind (q202 N c0 v1 v2 v3) fun r5 => cond (!r5.1) (some (((3 : Int), ()))) (some (((0 : Int), ()))))))) (cond ((ltI (↑v2.length : Int) c0)) (some (((1 : Int), ()))) (Option.bind (q200 N c0 v1 v2 v3) fun r0 => cond (!r0.1) (some (((4 : Int), ()))) (Option.bind (q201 N c0 v1 v2 v3) fun r1 => cond (!r1.1) (some (((10 : Int), ()))) (Option.bind (q202 N c0 v1 v2 v3) fun r2 => cond (!r2.1) (some (((3 : Int), ()))) (some (((0 : Int), ()))))))))))))
theorem zrb : p119 = q119 := by
  (repeat (apply funext; intro _))
  simp only [p119, q119, hide_eq, zzs, zzt, zzv, zag, zai, zaj, zah]
def zeU (N : Nat) (A_1000 : Int -> Int -> (List Row) -> (List Pr) -> (List Int) -> Option (List Int × Unit)) (A_19 : Bool -> Int -> Int -> Int -> Int -> (List Row) -> (List Pr) -> (List Int) -> Option (List Int × Unit)) (turned5 : Bool) (t64 t65 ob0_0 ob0_1 : Int) (ob0_2 : List Row) (ob0_3 : List Pr) (l3o : List Int) : Option (List Int × Unit) :=
  cond ((ltI t65 t64)) (must (leI (0 : Int) t65 && ltI t65 (↑l3o.length : Int)) (must (leI (0 : Int) (List.getD l3o t65.toNat (0 : Int)) && ltI (List.getD l3o t65.toNat (0 : Int)) (↑l3o.length : Int)) (cond ((ltI (List.getD l3o (Int.toNat (List.getD l3o t65.toNat (0 : Int))) (0 : Int)) (List.getD l3o t65.toNat (0 : Int)))) (must (leI (0 : Int) (List.getD l3o t65.toNat (0 : Int)) && ltI (List.getD l3o t65.toNat (0 : Int)) (↑l3o.length : Int)) (must (leI (0 : Int) t65 && ltI t65 (↑l3o.length : Int)) (A_19 true t64 ((wr (t65 + (1 : Int)))) ob0_0 ob0_1 ob0_2 ob0_3 (setL l3o t65.toNat (List.getD l3o (Int.toNat (List.getD l3o t65.toNat (0 : Int))) (0 : Int)))))) (A_19 turned5 t64 ((wr (t65 + (1 : Int)))) ob0_0 ob0_1 ob0_2 ob0_3 l3o)))) (cond turned5 (A_1000 ob0_0 ob0_1 ob0_2 ob0_3 l3o) (some ((l3o, ()))))
theorem zrc : zln = zeU := by
  (repeat (apply funext; intro _))
  simp only [zln, zeU, hide_eq, zag, zai, zaj, zah]
def zdX (N : Nat) (A_1000 : Int -> Int -> (List Row) -> (List Pr) -> (List Int) -> Option (List Int × Unit)) (n : Nat) (turned5 : Bool) (t64 t65 ob0_0 ob0_1 : Int) (ob0_2 : List Row) (ob0_3 : List Pr) (l3o : List Int) : Option (List Int × Unit) :=
  zam (fun A x => zeU N A_1000 (fun turned5 t64 t65 ob0_0 ob0_1 ob0_2 ob0_3 l3o => A (((), ((), (turned5, ((), (t64, (t65, ())))))), ((ob0_0, (ob0_1, (ob0_2, (ob0_3, ())))), (l3o, ())))) x.1.2.2.1 x.1.2.2.2.2.1 x.1.2.2.2.2.2.1 x.2.1.1 x.2.1.2.1 x.2.1.2.2.1 x.2.1.2.2.2.1 x.2.2.1) n (((), ((), (turned5, ((), (t64, (t65, ())))))), ((ob0_0, (ob0_1, (ob0_2, (ob0_3, ())))), (l3o, ())))
theorem zrd : zlo = zdX := by
  (repeat (apply funext; intro _))
  simp only [zlo, zdX, zrc, zag, zai, zaj, zah]
theorem zfl (N : Nat) (A_1000 : Int -> Int -> (List Row) -> (List Pr) -> (List Int) -> Option (List Int × Unit)) (n : Nat) (turned5 : Bool) (t64 t65 ob0_0 ob0_1 : Int) (ob0_2 : List Row) (ob0_3 : List Pr) (l3o : List Int) : zdX N A_1000 (n + 1) turned5 t64 t65 ob0_0 ob0_1 ob0_2 ob0_3 l3o = zeU N A_1000 (zdX N A_1000 n) turned5 t64 t65 ob0_0 ob0_1 ob0_2 ob0_3 l3o := rfl
def zeV (N : Nat) (A_1000 : Int -> Int -> (List Row) -> (List Pr) -> (List Int) -> Option (List Int × Unit)) (A_11 : Bool -> (List Pr) -> Int -> Int -> Int -> Int -> (List Row) -> (List Pr) -> (List Int) -> Option (List Int × Unit)) (turned5 : Bool) (t29 : List Pr) (t30 t31 ob0_0 ob0_1 : Int) (ob0_2 : List Row) (ob0_3 : List Pr) (l3o : List Int) : Option (List Int × Unit) :=
  cond ((ltI t31 t30)) (must (leI (0 : Int) t31 && ltI t31 (↑t29.length : Int)) (must (leI (0 : Int) (Pr.x (List.getD t29 t31.toNat (Pr.mk (0 : Int) (0 : Int)))) && ltI (Pr.x (List.getD t29 t31.toNat (Pr.mk (0 : Int) (0 : Int)))) (↑l3o.length : Int)) (must (leI (0 : Int) (Pr.y (List.getD t29 t31.toNat (Pr.mk (0 : Int) (0 : Int)))) && ltI (Pr.y (List.getD t29 t31.toNat (Pr.mk (0 : Int) (0 : Int)))) (↑l3o.length : Int)) (cond (!eqI (List.getD l3o (Int.toNat (Pr.x (List.getD t29 t31.toNat (Pr.mk (0 : Int) (0 : Int))))) (0 : Int)) (List.getD l3o (Int.toNat (Pr.y (List.getD t29 t31.toNat (Pr.mk (0 : Int) (0 : Int))))) (0 : Int))) (must (leI (0 : Int) (Pr.x (List.getD t29 t31.toNat (Pr.mk (0 : Int) (0 : Int)))) && ltI (Pr.x (List.getD t29 t31.toNat (Pr.mk (0 : Int) (0 : Int)))) (↑l3o.length : Int)) (must (leI (0 : Int) (Pr.y (List.getD t29 t31.toNat (Pr.mk (0 : Int) (0 : Int)))) && ltI (Pr.y (List.getD t29 t31.toNat (Pr.mk (0 : Int) (0 : Int)))) (↑(List.length (setL l3o (Int.toNat (Pr.x (List.getD t29 t31.toNat (Pr.mk (0 : Int) (0 : Int))))) (mnI (List.getD l3o (Int.toNat (Pr.x (List.getD t29 t31.toNat (Pr.mk (0 : Int) (0 : Int))))) (0 : Int)) (List.getD l3o (Int.toNat (Pr.y (List.getD t29 t31.toNat (Pr.mk (0 : Int) (0 : Int))))) (0 : Int))))) : Int)) (A_11 true t29 t30 ((wr (t31 + (1 : Int)))) ob0_0 ob0_1 ob0_2 ob0_3 (setL (setL l3o (Int.toNat (Pr.x (List.getD t29 t31.toNat (Pr.mk (0 : Int) (0 : Int))))) (mnI (List.getD l3o (Int.toNat (Pr.x (List.getD t29 t31.toNat (Pr.mk (0 : Int) (0 : Int))))) (0 : Int)) (List.getD l3o (Int.toNat (Pr.y (List.getD t29 t31.toNat (Pr.mk (0 : Int) (0 : Int))))) (0 : Int)))) (Int.toNat (Pr.y (List.getD t29 t31.toNat (Pr.mk (0 : Int) (0 : Int))))) (mnI (List.getD l3o (Int.toNat (Pr.x (List.getD t29 t31.toNat (Pr.mk (0 : Int) (0 : Int))))) (0 : Int)) (List.getD l3o (Int.toNat (Pr.y (List.getD t29 t31.toNat (Pr.mk (0 : Int) (0 : Int))))) (0 : Int))))))) (A_11 turned5 t29 t30 ((wr (t31 + (1 : Int)))) ob0_0 ob0_1 ob0_2 ob0_3 l3o))))) (zdX N A_1000 N turned5 ((↑l3o.length : Int)) (0 : Int) ob0_0 ob0_1 ob0_2 ob0_3 l3o)
theorem zre : zlp = zeV := by
  (repeat (apply funext; intro _))
  simp only [zlp, zeV, hide_eq, zrd, zag, zai, zaj, zah]
def zdj (N : Nat) (A_1000 : Int -> Int -> (List Row) -> (List Pr) -> (List Int) -> Option (List Int × Unit)) (n : Nat) (turned5 : Bool) (t29 : List Pr) (t30 t31 ob0_0 ob0_1 : Int) (ob0_2 : List Row) (ob0_3 : List Pr) (l3o : List Int) : Option (List Int × Unit) :=
  zam (fun A x => zeV N A_1000 (fun turned5 t29 t30 t31 ob0_0 ob0_1 ob0_2 ob0_3 l3o => A (((), ((), (turned5, (t29, (t30, (t31, ())))))), ((ob0_0, (ob0_1, (ob0_2, (ob0_3, ())))), (l3o, ())))) x.1.2.2.1 x.1.2.2.2.1 x.1.2.2.2.2.1 x.1.2.2.2.2.2.1 x.2.1.1 x.2.1.2.1 x.2.1.2.2.1 x.2.1.2.2.2.1 x.2.2.1) n (((), ((), (turned5, (t29, (t30, (t31, ())))))), ((ob0_0, (ob0_1, (ob0_2, (ob0_3, ())))), (l3o, ())))
theorem zrf : zlq = zdj := by
  (repeat (apply funext; intro _))
  simp only [zlq, zdj, zre, zag, zai, zaj, zah]
theorem zfm (N : Nat) (A_1000 : Int -> Int -> (List Row) -> (List Pr) -> (List Int) -> Option (List Int × Unit)) (n : Nat) (turned5 : Bool) (t29 : List Pr) (t30 t31 ob0_0 ob0_1 : Int) (ob0_2 : List Row) (ob0_3 : List Pr) (l3o : List Int) : zdj N A_1000 (n + 1) turned5 t29 t30 t31 ob0_0 ob0_1 ob0_2 ob0_3 l3o = zeV N A_1000 (zdj N A_1000 n) turned5 t29 t30 t31 ob0_0 ob0_1 ob0_2 ob0_3 l3o := rfl
def zcs (N : Nat) (A_1000 : Int -> Int -> (List Row) -> (List Pr) -> (List Int) -> Option (List Int × Unit)) (ob0_0 ob0_1 : Int) (ob0_2 : List Row) (ob0_3 : List Pr) (l3o : List Int) : Option (List Int × Unit) :=
  zdj N A_1000 N false ob0_3 ((↑ob0_3.length : Int)) (0 : Int) ob0_0 ob0_1 ob0_2 ob0_3 l3o
theorem zlH : zgq = zcs := by
  (repeat (apply funext; intro _))
  simp only [zgq, zcs, zrf, zag, zai, zaj, zah]
def zba (N n : Nat) (ob0_0 ob0_1 : Int) (ob0_2 : List Row) (ob0_3 : List Pr) (l3o : List Int) : Option (List Int × Unit) :=
  zam (fun A x => zcs N (fun ob0_0 ob0_1 ob0_2 ob0_3 l3o => A (((), ((), ())), ((ob0_0, (ob0_1, (ob0_2, (ob0_3, ())))), (l3o, ())))) x.2.1.1 x.2.1.2.1 x.2.1.2.2.1 x.2.1.2.2.2.1 x.2.2.1) n (((), ((), ())), ((ob0_0, (ob0_1, (ob0_2, (ob0_3, ())))), (l3o, ())))
theorem zlI : zgr = zba := by
  (repeat (apply funext; intro _))
  simp only [zgr, zba, zlH, zag, zai, zaj, zah]
theorem zdG (N n : Nat) (ob0_0 ob0_1 : Int) (ob0_2 : List Row) (ob0_3 : List Pr) (l3o : List Int) : zba N (n + 1) ob0_0 ob0_1 ob0_2 ob0_3 l3o = zcs N (zba N n) ob0_0 ob0_1 ob0_2 ob0_3 l3o := rfl
def zib (N : Nat) (A_5 : Int -> Int -> Int -> Int -> (List Row) -> (List Pr) -> (List Int) -> Option (List Int × Unit)) (t19 t20 ob0_0 ob0_1 : Int) (ob0_2 : List Row) (ob0_3 : List Pr) (l3o : List Int) : Option (List Int × Unit) :=
  cond ((ltI t20 t19)) (must (leI (0 : Int) t20 && ltI t20 (↑l3o.length : Int)) (A_5 t19 ((wr (t20 + (1 : Int)))) ob0_0 ob0_1 ob0_2 ob0_3 (setL l3o t20.toNat t20))) (zba N N ob0_0 ob0_1 ob0_2 ob0_3 l3o)
theorem ztv : zqa = zib := by
  (repeat (apply funext; intro _))
  simp only [zqa, zib, hide_eq, zlI, zag, zai, zaj, zah]
def zic (N n : Nat) (t19 t20 ob0_0 ob0_1 : Int) (ob0_2 : List Row) (ob0_3 : List Pr) (l3o : List Int) : Option (List Int × Unit) :=
  zam (fun A x => zib N (fun t19 t20 ob0_0 ob0_1 ob0_2 ob0_3 l3o => A (((), ((), (t19, (t20, ())))), ((ob0_0, (ob0_1, (ob0_2, (ob0_3, ())))), (l3o, ())))) x.1.2.2.1 x.1.2.2.2.1 x.2.1.1 x.2.1.2.1 x.2.1.2.2.1 x.2.1.2.2.2.1 x.2.2.1) n (((), ((), (t19, (t20, ())))), ((ob0_0, (ob0_1, (ob0_2, (ob0_3, ())))), (l3o, ())))
theorem ztw : zqb = zic := by
  (repeat (apply funext; intro _))
  simp only [zqb, zic, ztv, zag, zai, zaj, zah]
theorem zgR (N n : Nat) (t19 t20 ob0_0 ob0_1 : Int) (ob0_2 : List Row) (ob0_3 : List Pr) (l3o : List Int) : zic N (n + 1) t19 t20 ob0_0 ob0_1 ob0_2 ob0_3 l3o = zib N (zic N n) t19 t20 ob0_0 ob0_1 ob0_2 ob0_3 l3o := rfl
def q134 (N : Nat) (c0 v1 : Int) (v2 : List Row) (v3 : List Pr) : Option (List Int × Unit) :=
  Option.bind (q119 N c0 v1 v2 v3) fun r0 => cond (!eqI r0.1 (0 : Int)) (some (([], ()))) (must (leI (0 : Int) v1 && (eqI v1 v1 && leN (Int.toNat v1 * (8 : Nat)) (140737488355328 : Nat))) (zic N N ((↑(List.length (List.replicate v1.toNat (0 : Int))) : Int)) (0 : Int) c0 v1 v2 v3 (List.replicate v1.toNat (0 : Int))))
theorem zzw : p134 = q134 := by
  (repeat (apply funext; intro _))
  simp only [p134, q134, hide_eq, ztw, zrb, zag, zai, zaj, zah]
end
end Go.Proofs.Ytgimohchocjgcaa.V
