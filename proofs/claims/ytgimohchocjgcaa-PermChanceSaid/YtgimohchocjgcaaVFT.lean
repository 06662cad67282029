import Derived.Test.YtgimohchocjgcaaVFS
import Derived.KernelRfl
set_option linter.unusedVariables false
set_option linter.unusedSimpArgs false
namespace Go.Proofs.Ytgimohchocjgcaa.V
theorem alg5 (B A1 A2 A3 P x y c s d : Nat) (hv : A1 + A3 = A2 + P * c) (h3 : s + y + c = x + B * d) : A1 + P * s + (A3 + P * y) = A2 + P * x + P * B * d := by
  have e : P * (s + y + c) = P * (x + B * d) := by rw [h3]
  grind
theorem sub_mod {a b : Nat} (ha : a < RR) (hb : b < RR) : (a + (RR - b)) % RR = if b ≤ a then a - b else a + RR - b := by
  split
  · rw [show a + (RR - b) = (a - b) + RR by omega, Nat.add_mod_right, Nat.mod_eq_of_lt (by omega)]
  · rw [Nat.mod_eq_of_lt (by omega)]; omega
theorem m177_4_eq (N : Nat) (a b : List UInt64) (ha : a.length = 4) (hb : b.length = 4) : ∀ (k n j : Nat) (c : UInt64) (t : List UInt64), j + k = 4 → k < n → t.length = 4 → c.toNat ≤ 1 →
    lv (t.take j) + lv (b.take j) = lv (a.take j) + 18446744073709551616 ^ j * c.toNat →
    ∃ (c' : UInt64) (t' : List UInt64) (n' : Nat), t'.length = 4 ∧ c'.toNat ≤ 1 ∧ lv t' + lv b = lv a + 18446744073709551616 ^ 4 * c'.toNat ∧ m177_4 N n a b mL c (j : Int) t = m177_4 N (n' + 1) a b mL c' 4 t' := by
  intro k
  induction k with
  | zero =>
    intro n j c t hj hn ht hc hv
    obtain ⟨n, rfl⟩ : ∃ m, n = m + 1 := ⟨n - 1, by omega⟩
    obtain rfl : j = 4 := by omega
    rw [List.take_of_length_le (l := t) (by omega), List.take_of_length_le (l := a) (by omega), List.take_of_length_le (l := b) (by omega)] at hv
    exact ⟨c, t, n, ht, hc, hv, rfl⟩
  | succ k ih =>
    intro n j c t hj hn ht hc hv
    obtain ⟨n, rfl⟩ : ∃ m, n = m + 1 := ⟨n - 1, by omega⟩
    obtain ⟨s, d, h1, h2, h3⟩ := kSub_eq (x := a.getD j 0) (y := b.getD j 0) hc
    rw [m177_4_succ]
    unfold c177_4
    rw [show List.length mL = 4 from rfl, ltI_true (show (j : Int) < ((4 : Nat) : Int) by omega), cond_true, wr_add1 (by omega)]
    simp only [ltI_nat, leI_zero, Int.toNat_natCast]
    rw [ltN_true (show j < a.length by omega), ltN_true (show j < b.length by omega), ltN_true (show j < t.length by omega)]
    simp only [Bool.and_self, mst2, h1, bsm]
    refine ih n (j + 1) _ _ (by omega) (by omega) (by rw [length_setL]; exact ht) h2 ?_
    rw [lv_take_setL _ _ (by omega), lv_take_succ a, lv_take_succ b, Nat.pow_succ]
    exact alg5 _ _ _ _ _ _ _ _ _ _ hv h3
theorem m177_10_eq (N : Nat) (t0 : List UInt64) : ∀ (k n j : Nat) (c : UInt64) (t : List UInt64), j + k = 4 → k < n → t.length = 4 → c.toNat ≤ 1 → (∀ p, j ≤ p → t.getD p 0 = t0.getD p 0) →
    lv (t.take j) + 18446744073709551616 ^ j * c.toNat = lv (t0.take j) + lv (mL.take j) →
    ∃ (c' : UInt64) (r : List UInt64), c'.toNat ≤ 1 ∧ r.length = 4 ∧ lv r + 18446744073709551616 ^ 4 * c'.toNat = lv (t0.take 4) + RR ∧ m177_10 N n mL c (j : Int) t = some (r, ()) := by
  intro k
  induction k with
  | zero =>
    intro n j c t hj hn ht hc hp hv
    obtain ⟨n, rfl⟩ : ∃ m, n = m + 1 := ⟨n - 1, by omega⟩
    obtain rfl : j = 4 := by omega
    rw [List.take_of_length_le (l := t) (by omega), show List.take 4 mL = mL from rfl, lv_mL] at hv
    refine ⟨c, t, hc, ht, hv, ?_⟩
    rw [m177_10_succ]
    unfold c177_10
    rw [show List.length mL = 4 from rfl, ltI_false (by omega), cond_false]
  | succ k ih =>
    intro n j c t hj hn ht hc hp hv
    obtain ⟨n, rfl⟩ : ∃ m, n = m + 1 := ⟨n - 1, by omega⟩
    obtain ⟨s, d, h1, h2, h3⟩ := kAdd_eq (x := t.getD j 0) (y := mL.getD j 0) hc
    rw [m177_10_succ]
    unfold c177_10
    rw [show List.length mL = 4 from rfl, ltI_true (show (j : Int) < ((4 : Nat) : Int) by omega), cond_true, wr_add1 (by omega)]
    rw [ht, ltI_true (show (j : Int) < ((4 : Nat) : Int) by omega)]
    simp only [leI_zero, Int.toNat_natCast, Bool.and_self, mst2, h1, bsm]
    refine ih n (j + 1) _ _ (by omega) (by omega) (by rw [length_setL]; exact ht) h2 ?_ ?_
    · intro p h
      rw [getD_setL, if_neg (by omega)]
      exact hp p (by omega)
    · rw [lv_take_setL _ _ (by omega), lv_take_succ t0, lv_take_succ mL, Nat.pow_succ, ← hp j (Nat.le_refl _)]
      exact m80_4_eq.alg4 _ _ _ _ _ _ _ _ _ _ hv h3
theorem q177_eq {N : Nat} (hN : 10 < N) {a b : List UInt64} (ha : a.length = 4) (hb : b.length = 4) (hal : lv a < RR) (hbl : lv b < RR) : ∃ r, q177 N a b mL = some (r, ()) ∧ r.length = 4 ∧ lv r = (lv a + (RR - lv b)) % RR := by
  have hRR := RR_lt
  obtain ⟨c', t', n', h1, h2, h3, h4⟩ := m177_4_eq N a b ha hb 4 N 0 0 [0, 0, 0, 0] rfl (by omega) rfl (by decide) (by simp [lv])
  have hq : q177 N a b mL = m177_4 N N a b mL 0 ((0 : Nat) : Int) [0, 0, 0, 0] := by
    unfold q177
    rw [show List.length mL = 4 from rfl, Int.toNat_natCast, eqI_true rfl, leN_true (by omega)]
    simp only [Bool.and_self, mst2]
    rfl
  have htl := lv_lt t'
  rw [h1] at htl
  rw [hq, h4, m177_4_succ]
  unfold c177_4
  rw [show List.length mL = 4 from rfl, ltI_false (by omega), cond_false, sub_mod hal hbl]
  by_cases hc : c' = 1
  · rw [hc] at h3 ⊢
    rw [show UInt64.toNat 1 = 1 from rfl] at h3
    rw [beq_self_eq_true, cond_true]
    obtain ⟨c2, r, g1, g4, g2, g3⟩ := m177_10_eq N t' 4 N 0 0 t' rfl (by omega) h1 (by decide) (fun _ _ => rfl) (by simp [lv])
    rw [List.take_of_length_le (by omega)] at g2
    have hrl := lv_lt r
    rw [g4] at hrl
    rw [if_neg (by omega)]
    exact ⟨r, g3, g4, by omega⟩
  · have hc0 : c'.toNat = 0 := by
      have : c'.toNat ≠ 1 := fun h => hc (UInt64.toNat_inj.1 h)
      omega
    rw [hc0] at h3
    rw [beq_eq_false_iff_ne.2 hc, cond_false, if_pos (by omega)]
    exact ⟨t', rfl, h1, by omega⟩
theorem q83_eq {N : Nat} (hN : 10 < N) {a b : Fr} (ha : fv a < RR) (hb : fv b < RR) : q83 N a b = some (frN ((fv a + (RR - fv b)) % RR), ()) := by
  obtain ⟨r, h1, h2, h3⟩ := q177_eq hN (a := a.l) (b := b.l) rfl rfl ha hb
  have hq : q83 N a b = Option.bind (q177 N a.l b.l mL) fun r1 => Option.bind (q175 N (Prod.fst r1)) fun r2 => some ((Prod.fst r2, ())) := rfl
  rw [hq, h1]
  simp only [bsm]
  rw [q175_eq (by omega)]
  simp only [bsm]
  rw [h3]
  rfl
theorem fv_zero : fv ⟨0, 0, 0, 0⟩ = 0 := by decide
theorem fv_small (n : UInt64) : fv ⟨n, 0, 0, 0⟩ = n.toNat := by simp [fv, Fr.l, lv]
theorem RR_pos : 0 < RR := by decide
theorem q85_eq {N : Nat} (hN : 10 < N) {a : Fr} (ha : fv a < RR) : q85 N a = some (frN ((RR - fv a) % RR), ()) := by
  unfold q85
  rw [q83_eq hN (by rw [fv_zero]; exact RR_pos) ha, fv_zero, Nat.zero_add]
  rfl
theorem q69_eq {N : Nat} (hN : 10 < N) (a : Fr) : q69 N a = some (decide (fv a < RR), ()) := by
  have hq : q69 N a = Option.bind (q168 N a.l mL) fun r1 => some ((Prod.fst r1, ())) := rfl
  rw [hq, q168_eq (N := N) (a := a.l) (m := mL) (by decide) rfl (by show 4 < N; omega), lv_mL]
  rfl
theorem q76_eq' {N : Nat} (hN : 10 < N) {a b : Fr} (ha : fv a < RR) : q76 N a b = some (frN (fv a * fv b % RR), ()) := by
  obtain ⟨r, h1, h2⟩ := q76_eq hN (b := b) ha
  rw [h1, is_frN h2]
theorem bit_of (e : List UInt64) (i : Nat) : ((shr64 (e.getD (i / 64) 0) (i % 64) &&& 1) == 1) = decide (lv e / 2 ^ i % 2 = 1) := by
  have h : (shr64 (e.getD (i / 64) 0) (i % 64) &&& 1).toNat = lv e / 2 ^ i % 2 := by
    rw [and_one, shr64_nat, bit_nat, bit_nat, lv_bit]
  rw [Bool.eq_iff_iff, beq_iff_eq, decide_eq_true_iff, ← h, ← UInt64.toNat_inj]
  rfl
theorem pow_bit (a E i M : Nat) : (a ^ (E / 2 ^ (i + 1)) * a ^ (E / 2 ^ (i + 1)) * (if E / 2 ^ i % 2 = 1 then a else 1)) = a ^ (E / 2 ^ i) := by
  have e : E / 2 ^ i = 2 * (E / 2 ^ (i + 1)) + E / 2 ^ i % 2 := by
    rw [Nat.pow_succ, ← Nat.div_div_eq_div_mul]; omega
  have h2 : E / 2 ^ i % 2 = 0 ∨ E / 2 ^ i % 2 = 1 := by omega
  rw [← Nat.pow_add]
  rcases h2 with h | h
  · rw [h, if_neg (by omega), Nat.mul_one]; congr 1; omega
  · rw [h, if_pos rfl, ← Nat.pow_succ]; congr 1; omega
def Cg (a b : Nat) : Prop := a % RR = b % RR
theorem Cg.rfl' {a : Nat} : Cg a a := rfl
theorem Cg.symm {a b : Nat} (h : Cg a b) : Cg b a := Eq.symm h
theorem Cg.trans {a b c : Nat} (h : Cg a b) (g : Cg b c) : Cg a c := Eq.trans h g
theorem Cg.mul {a b c d : Nat} (h1 : Cg a b) (h2 : Cg c d) : Cg (a * c) (b * d) := by
  unfold Cg at *
  rw [Nat.mul_mod, h1, h2, ← Nat.mul_mod]
theorem Cg.add {a b c d : Nat} (h1 : Cg a b) (h2 : Cg c d) : Cg (a + c) (b + d) := by
  unfold Cg at *
  rw [Nat.add_mod, h1, h2, ← Nat.add_mod]
theorem Cg.pow {a b : Nat} (h1 : Cg a b) (n : Nat) : Cg (a ^ n) (b ^ n) := by
  induction n with
  | zero => exact Cg.rfl'
  | succ n ih => rw [Nat.pow_succ, Nat.pow_succ]; exact ih.mul h1
theorem Cg.mod (a : Nat) : Cg (a % RR) a := Nat.mod_mod _ _
theorem Cg.of_eq {a b : Nat} (h : a = b) : Cg a b := by rw [h]; exact Cg.rfl'
theorem Cg.lt {a b : Nat} (h : Cg a b) (ha : a < RR) : a = b % RR := by
  unfold Cg at h
  rw [← h, Nat.mod_eq_of_lt ha]
theorem cgB (x : Nat) : Cg (x * (18446744073709551616 ^ 4 * Binv)) x := by
  have : Cg (18446744073709551616 ^ 4 * Binv) 1 := by unfold Cg; rw [binv_is]; decide
  have h := (Cg.rfl' (a := x)).mul this
  rwa [Nat.mul_one] at h
theorem half_alg (p q B C : Nat) : p * B * (q * B) * C = p * q * B * (B * C) := by grind
theorem half_rep {x y p q : Nat} (hx : Cg x (p * 18446744073709551616 ^ 4)) (hy : Cg y (q * 18446744073709551616 ^ 4)) : Cg (x * y * Binv % RR) (p * q * 18446744073709551616 ^ 4) :=
  (Cg.mod _).trans (((hx.mul hy).mul Cg.rfl').trans ((Cg.of_eq (half_alg p q _ Binv)).trans (cgB _)))
theorem m72_eq {N : Nat} (hN : 10 < N) (a : Nat) (e z : List UInt64) (he : e.length < 1000) (u : Fr) (hu : fv u < RR) (hu2 : Cg (fv u) (a * 18446744073709551616 ^ 4)) : ∀ (i n : Nat) (x : Fr), i < n → i ≤ 64 * e.length → fv x < RR → Cg (fv x) (a ^ (lv e / 2 ^ i) * 18446744073709551616 ^ 4) →
    m72_1000 N n e (i : Int) z u.l x.l = some (frN (a ^ lv e % RR), ()) := by
  intro i
  induction i with
  | zero =>
    intro n x hn hi hx hx2
    obtain ⟨n, rfl⟩ : ∃ m, n = m + 1 := ⟨n - 1, by omega⟩
    obtain ⟨r, h1, h2⟩ := q171_eq hN hx
    have e1 : wr (((0 : Nat) : Int) - 1) = -1 := by decide
    rw [m72_1000_succ]
    unfold c72_1000
    rw [e1, ltI_true (by omega), cond_true, show Fr.of? x.l = some x from rfl]
    simp only [bsm]
    rw [h1]
    simp only [bsm]
    have : r = frN (a ^ lv e % RR) := is_frN (by
      rw [h2]
      rw [Nat.pow_zero, Nat.div_one] at hx2
      exact ((hx2.mul Cg.rfl').trans ((Cg.of_eq (Nat.mul_assoc _ _ _)).trans (cgB _))))
    rw [← this]
  | succ i ih =>
    intro n x hn hi hx hx2
    obtain ⟨n, rfl⟩ : ∃ m, n = m + 1 := ⟨n - 1, by omega⟩
    obtain ⟨y, h1, h2⟩ := q172_eq hN (a := x) (b := x) hx
    have hy : fv y < RR := by rw [h2]; exact mod_lt_RR _
    have hy2 : Cg (fv y) (a ^ (lv e / 2 ^ (i + 1)) * a ^ (lv e / 2 ^ (i + 1)) * 18446744073709551616 ^ 4) := by rw [h2]; exact half_rep hx2 hx2
    obtain ⟨w, g1, g2⟩ := q172_eq hN (a := y) (b := u) hy
    have hw : fv w < RR := by rw [g2]; exact mod_lt_RR _
    have hw2 : Cg (fv w) (a ^ (lv e / 2 ^ (i + 1)) * a ^ (lv e / 2 ^ (i + 1)) * a * 18446744073709551616 ^ 4) := by rw [g2]; exact half_rep hy2 hu2
    have hpb := pow_bit a (lv e) i 0
    have t1 : wr (Int.tdiv (i : Int) 64) = ((i / 64 : Nat) : Int) := by rw [show Int.tdiv (i : Int) 64 = ((i / 64 : Nat) : Int) from rfl, wr_id (by omega) (by omega)]
    have t2 : (u64I (Int.tmod (i : Int) 64)).toNat = i % 64 := by rw [show Int.tmod (i : Int) 64 = ((i % 64 : Nat) : Int) from rfl, u64I_nat (by omega)]
    rw [m72_1000_succ]
    unfold c72_1000
    rw [wr_sub1 (by omega), ltI_false (by omega), cond_false, show Fr.of? x.l = some x from rfl, show Fr.of? u.l = some u from rfl]
    simp only [bsm]
    rw [h1]
    simp only [bsm]
    rw [t1, t2, leI_zero, ltI_true (by omega), Int.toNat_natCast, bit_of]
    simp only [Bool.and_self, mst2]
    by_cases hb : lv e / 2 ^ i % 2 = 1
    · rw [decide_eq_true hb, cond_true, g1]
      simp only [bsm]
      rw [if_pos hb] at hpb
      rw [hpb] at hw2
      exact ih n w (by omega) (by omega) hw hw2
    · rw [decide_eq_false hb, cond_false]
      rw [if_neg hb, Nat.mul_one] at hpb
      rw [hpb] at hy2
      exact ih n y (by omega) (by omega) hy hy2
theorem q72_eq {N : Nat} {a : Fr} {e : List UInt64} (ha : fv a < RR) (he : 64 * e.length + 100 < N) (he2 : e.length < 1000) : q72 N a e = some (frN (fv a ^ lv e % RR), ()) := by
  obtain ⟨u, h1, h2⟩ := q170_eq (N := N) (by omega) ha
  obtain ⟨x, g1, g2⟩ := q170_eq (N := N) (a := ⟨1, 0, 0, 0⟩) (by omega) (by rw [fv_small]; decide)
  unfold q72
  rw [h1]
  simp only [bsm]
  rw [g1]
  simp only [bsm]
  rw [show wr (64 * (e.length : Int)) = ((64 * e.length : Nat) : Int) by rw [wr_id (by omega) (by omega)]; omega]
  have hlt : lv e / 2 ^ (64 * e.length) = 0 := by
    apply Nat.div_eq_of_lt
    have := lv_lt e
    rw [Nat.pow_mul]
    exact this
  exact m72_eq (by omega) (fv a) e [0, 0, 0, 0] he2 u (by rw [h2]; exact mod_lt_RR _) (by rw [h2]; exact Cg.mod _) (64 * e.length) N x (by omega) (Nat.le_refl _) (by rw [g2]; exact mod_lt_RR _) (by rw [g2, hlt, Nat.pow_zero, fv_small]; exact Cg.mod _)
theorem m73_eq {N : Nat} (hN : 10 < N) (a : Fr) (ha : fv a < RR) (e z : List UInt64) (he : e.length < 1000) : ∀ (i n : Nat) (x : Fr), i < n → i ≤ 64 * e.length → fv x < RR → Cg (fv x) (fv a ^ (lv e / 2 ^ i)) →
    m73_3 N n e ((i : Int) - 1) a.l z x.l = some (frN (fv a ^ lv e % RR), ()) := by
  intro i
  induction i with
  | zero =>
    intro n x hn hi hx hx2
    obtain ⟨n, rfl⟩ : ∃ m, n = m + 1 := ⟨n - 1, by omega⟩
    rw [m73_3_succ]
    unfold c73_3
    rw [leI_false (by omega), cond_false, show Fr.of? x.l = some x from rfl, show List.length x.l = 4 from rfl, show Nat.beq 4 4 = true from rfl]
    simp only [mst2, bsm]
    rw [Nat.pow_zero, Nat.div_one] at hx2
    have : x = frN (fv a ^ lv e % RR) := is_frN (hx2.lt hx)
    rw [← this]
  | succ i ih =>
    intro n x hn hi hx hx2
    obtain ⟨n, rfl⟩ : ∃ m, n = m + 1 := ⟨n - 1, by omega⟩
    have hpb := pow_bit (fv a) (lv e) i 0
    obtain ⟨b, h1, h2⟩ := q162_eq (N := N) (a := e) (i := i) (by omega)
    have hy2 : Cg (fv (frN (fv x * fv x % RR))) (fv a ^ (lv e / 2 ^ (i + 1)) * fv a ^ (lv e / 2 ^ (i + 1))) := by rw [fv_mod]; exact (Cg.mod _).trans (hx2.mul hx2)
    rw [m73_3_succ]
    unfold c73_3
    rw [show ((i + 1 : Nat) : Int) - 1 = (i : Int) by omega, leI_zero, cond_true, show Fr.of? x.l = some x from rfl, show Fr.of? a.l = some a from rfl, wr_id (by omega) (by omega)]
    simp only [bsm]
    rw [q94_eq hN hx]
    simp only [bsm]
    rw [h1]
    simp only [bsm]
    have hbb : (b == 1) = decide (lv e / 2 ^ i % 2 = 1) := by
      rw [Bool.eq_iff_iff, beq_iff_eq, decide_eq_true_iff, ← h2, ← UInt64.toNat_inj]
      rfl
    rw [hbb]
    by_cases hb : lv e / 2 ^ i % 2 = 1
    · rw [decide_eq_true hb, cond_true, q94_eq hN ha]
      simp only [bsm]
      rw [if_pos hb] at hpb
      refine ih n _ (by omega) (by omega) (by rw [fv_mod]; exact mod_lt_RR _) ?_
      rw [fv_mod, ← hpb]
      exact (Cg.mod _).trans (hy2.mul Cg.rfl')
    · rw [decide_eq_false hb, cond_false]
      rw [if_neg hb, Nat.mul_one] at hpb
      refine ih n _ (by omega) (by omega) (by rw [fv_mod]; exact mod_lt_RR _) ?_
      rw [hpb] at hy2
      exact hy2
theorem q73_eq {N : Nat} {a : Fr} {e : List UInt64} (ha : fv a < RR) (he : 64 * e.length + 100 < N) (he2 : e.length < 1000) : q73 N a e = some (frN (fv a ^ lv e % RR), ()) := by
  unfold q73
  rw [show q173 N 1 = some ((⟨1, 0, 0, 0⟩ : Fr), ()) from rfl]
  simp only [bsm]
  rw [show wr (64 * (e.length : Int)) = ((64 * e.length : Nat) : Int) by rw [wr_id (by omega) (by omega)]; omega, wr_id (by omega) (by omega)]
  have hlt : lv e / 2 ^ (64 * e.length) = 0 := by
    apply Nat.div_eq_of_lt
    have := lv_lt e
    rw [Nat.pow_mul]
    exact this
  exact m73_eq (by omega) a ha e [0, 0, 0, 0] he2 (64 * e.length) N ⟨1, 0, 0, 0⟩ (by omega) (Nat.le_refl _) (by rw [fv_small]; decide) (by rw [hlt, Nat.pow_zero, fv_small]; exact Cg.rfl')
theorem fr_zero (a : Fr) : (a = ⟨0, 0, 0, 0⟩) ↔ fv a = 0 := by
  constructor
  · rintro rfl; exact fv_zero
  · intro h; exact fr_ext (by rw [h, fv_zero])
theorem q70_eq {N : Nat} (hN : 1000 < N) {a : Fr} (ha : fv a < RR) : q70 N a = if fv a = 0 then some (a, 7, ()) else some (frN (fv a ^ (RR - 2) % RR), 0, ()) := by
  have hm : lv (List.take (Int.toNat (((4 : Nat) : Int) - 0)) (setL mL 0 (18446744069414584321 - 2))) = RR - 2 := by decide +kernel
  have hq := q72_eq (N := N) (e := List.take (Int.toNat (((4 : Nat) : Int) - 0)) (setL mL 0 (18446744069414584321 - 2))) ha (show 64 * 4 + 100 < N by omega) (show 4 < 1000 by omega)
  rw [hm] at hq
  have e1 := eqL_fr a ⟨0, 0, 0, 0⟩
  simp only [fr_zero] at e1
  unfold q70
  rw [e1]
  by_cases h : fv a = 0
  · rw [decide_eq_true h, cond_true, if_pos h]
  · rw [decide_eq_false h, cond_false, if_neg h]
    rw [show q169 N = some ((⟨18446744069414584321, 6034159408538082302, 3691218898639771653, 8353516859464449352⟩ : Fr), ()) from rfl]
    simp only [bsm]
    refine Eq.trans (congrArg (fun t => Option.bind t _) hq) ?_
    rfl
end Go.Proofs.Ytgimohchocjgcaa.V
