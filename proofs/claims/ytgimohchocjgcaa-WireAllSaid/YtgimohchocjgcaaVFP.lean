import Derived.Test.YtgimohchocjgcaaVFO
set_option linter.unusedVariables false
set_option linter.unusedSimpArgs false
namespace Go.Proofs.Ytgimohchocjgcaa.V
def mL : List UInt64 := [18446744069414584321, 6034159408538082302, 3691218898639771653, 8353516859464449352]
theorem lv_mL : lv mL = RR := by decide +kernel
theorem m174_5_eq (N : Nat) (over : UInt64) (a z : List UInt64) (ha : a.length = 4) : ∀ (k n j : Nat) (c : UInt64) (t : List UInt64), j + k = 4 → k < n → t.length = 4 → c.toNat ≤ 1 →
    lv (t.take j) + lv (mL.take j) = lv (a.take j) + 18446744073709551616 ^ j * c.toNat →
    ∃ (c' : UInt64) (t' : List UInt64) (n' : Nat), t'.length = 4 ∧ c'.toNat ≤ 1 ∧ lv t' + RR = lv a + 18446744073709551616 ^ 4 * c'.toNat ∧ m174_5 N n over c (j : Int) a z mL t = m174_5 N (n' + 1) over c' 4 a z mL t' := by
  intro k
  induction k with
  | zero =>
    intro n j c t hj hn ht hc hv
    obtain ⟨n, rfl⟩ : ∃ m, n = m + 1 := ⟨n - 1, by omega⟩
    obtain rfl : j = 4 := by omega
    rw [List.take_of_length_le (l := t) (by omega), List.take_of_length_le (l := a) (by omega), show mL.take 4 = mL from rfl, lv_mL] at hv
    exact ⟨c, t, n, ht, hc, hv, rfl⟩
  | succ k ih =>
    intro n j c t hj hn ht hc hv
    obtain ⟨n, rfl⟩ : ∃ m, n = m + 1 := ⟨n - 1, by omega⟩
    obtain ⟨s, d, h1, h2, h3⟩ := kSub_eq (x := a.getD j 0) (y := mL.getD j 0) hc
    rw [m174_5_succ]
    unfold c174_5
    rw [ltI_true (by omega), cond_true, wr_add1 (by omega)]
    simp only [ltI_nat, leI_zero, Int.toNat_natCast]
    rw [ltN_true (by omega)]
    simp only [Bool.and_self, mst, h1, Option.bind_some]
    refine ih n (j + 1) _ _ (by omega) (by omega) (by rw [length_setL]; exact ht) h2 ?_
    rw [lv_take_setL _ _ (by omega), lv_take_succ mL, lv_take_succ a, Nat.pow_succ]
    generalize lv (List.take j t) = A1 at *
    generalize lv (List.take j mL) = A2 at *
    generalize lv (List.take j a) = A3 at *
    generalize (18446744073709551616 ^ j : Nat) = P at *
    generalize (mL.getD j 0).toNat = y at *
    generalize (a.getD j 0).toNat = x at *
    generalize d.toNat = d0 at *
    generalize s.toNat = s at *
    generalize c.toNat = c0 at *
    have e : P * s + P * y + P * c0 = P * x + P * 18446744073709551616 * d0 := by
      have : P * (s + y + c0) = P * (x + 18446744073709551616 * d0) := by rw [h3]
      grind
    grind
theorem q174_eq {N : Nat} (hN : 10 < N) (a : Fr) (over : UInt64) (ho : over.toNat ≤ 1) (hb : fv a + 18446744073709551616 ^ 4 * over.toNat < RR + 18446744073709551616 ^ 4) :
    ∃ r, q174 N a over = some (r, ()) ∧ fv r = if fv a + 18446744073709551616 ^ 4 * over.toNat < RR then fv a + 18446744073709551616 ^ 4 * over.toNat else fv a + 18446744073709551616 ^ 4 * over.toNat - RR := by
  obtain ⟨c', t', n', h1, h2, h3, h4⟩ := m174_5_eq N over a.l [0, 0, 0, 0] rfl 4 N 0 0 [0, 0, 0, 0] rfl (by omega) rfl (by decide) (by simp [lv])
  have hq : q174 N a over = m174_5 N N over 0 ((0 : Nat) : Int) a.l [0, 0, 0, 0] mL [0, 0, 0, 0] := rfl
  rw [hq, h4, m174_5_succ]
  unfold c174_5
  rw [ltI_false (by omega), cond_false]
  obtain ⟨r, hr1, hr2⟩ := of4 h1
  have hal : a.l.length = 4 := rfl
  have hRR : RR < 18446744073709551616 ^ 4 := by decide
  have hfv : fv r = lv t' := by rw [fv, hr2]
  have htl := lv_lt t'
  rw [h1] at htl
  by_cases hc : over.toNat < c'.toNat
  · rw [ltN_true hc, cond_true, hal, show Nat.beq 4 4 = true from rfl, mst, show Fr.of? a.l = some a from rfl]
    refine ⟨a, rfl, ?_⟩
    have h0 : over.toNat = 0 := by omega
    have h11 : c'.toNat = 1 := by omega
    rw [h11] at h3
    rw [h0, if_pos (by unfold fv; omega)]
    omega
  · rw [ltN_false hc, cond_false, h1, show Nat.beq 4 4 = true from rfl, mst, hr1]
    refine ⟨r, rfl, ?_⟩
    unfold fv at hb ⊢
    unfold fv at hfv
    rw [hfv]
    rcases (by omega : c'.toNat = 0 ∨ c'.toNat = 1) with e | e <;> rcases (by omega : over.toNat = 0 ∨ over.toNat = 1) with e2 | e2 <;> rw [e] at h3 <;> rw [e2] at hb ⊢ <;> first | omega | (rw [if_neg (by omega)]; omega)
theorem lv_top {t : List UInt64} (h : t.length = 5) : lv t = lv (t.take 4) + 18446744073709551616 ^ 4 * (t.getD 4 0).toNat := by
  have e := lv_take_succ t 4
  rw [List.take_of_length_le (by omega)] at e
  exact e
theorem inv_low (x : UInt64) : (x * 18446744069414584319).toNat * 18446744069414584321 % 18446744073709551616 = (18446744073709551616 - x.toNat) % 18446744073709551616 := by
  have hx := x.toNat_lt
  rw [UInt64.toNat_mul, show UInt64.toNat 18446744069414584319 = 18446744069414584319 from rfl, Nat.mod_mul_mod, Nat.mul_assoc]
  omega
theorem m172_4_step {N : Nat} (hN : 10 < N) (a b z t : List UInt64) (i : Nat) (hi : i < 4) (ha : a.length = 4) (hb : b.length = 4) (ht : t.length = 5) (hlt : lv t < lv a + RR) (n : Nat) :
    ∃ t' x, t'.length = 5 ∧ 18446744073709551616 * lv t' = lv t + lv a * (b.getD i 0).toNat + x * RR ∧ x < 18446744073709551616 ∧ m172_4 N (n + 1) (i : Int) a b z mL t = m172_4 N n ((i + 1 : Nat) : Int) a b z mL t' := by
  have hal := lv_lt a
  rw [ha] at hal
  have hRR : RR < 18446744073709551616 ^ 4 := by decide
  have htt := lv_top ht
  have ht4 : (t.getD 4 0).toNat ≤ 1 := by omega
  obtain ⟨c1, t1, n1, g1, g2, g3, g4⟩ := m172_8_eq N (m172_4 N n) a b z mL t i hi ha 4 N 0 0 t rfl (by omega) ht (by simp [lv]) (fun _ _ => rfl)
  obtain ⟨top, more, f1, f2, f3⟩ := kadd0 (t1.getD 4 0) c1
  obtain ⟨hi0, lo0, e1, e2⟩ := q163_eq N (t1.getD 0 0 * 18446744069414584319) 18446744069414584321
  obtain ⟨s0, k0, d1, d2, d3⟩ := kadd0 lo0 (t1.getD 0 0)
  have hs0 : s0.toNat = 0 := by
    have hl := inv_low (t1.getD 0 0)
    have := (t1.getD 0 0).toNat_lt
    have := lo0.toNat_lt
    have := s0.toNat_lt
    rw [show UInt64.toNat 18446744069414584321 = 18446744069414584321 from rfl] at e2
    rw [← e2] at hl
    omega
  have hc : (hi0 + k0).toNat = hi0.toNat + k0.toNat := by
    have := hi0.toNat_lt
    have hx : (t1.getD 0 0 * 18446744069414584319).toNat * UInt64.toNat 18446744069414584321 ≤ 18446744073709551615 * 18446744069414584321 := Nat.mul_le_mul (by have := (t1.getD 0 0 * 18446744069414584319).toNat_lt; omega) (Nat.le_refl _)
    rw [UInt64.toNat_add]
    omega
  have hv2 : 18446744073709551616 * (lv (t1.take (1 - 1)) + 18446744073709551616 ^ (1 - 1) * (hi0 + k0).toNat) = lv (t1.take 1) + (t1.getD 0 0 * 18446744069414584319).toNat * lv (mL.take 1) := by
    have e5 : lv (t1.take 1) = (t1.getD 0 0).toNat := by rw [lv_take_succ]; simp [lv]
    have e6 : lv (mL.take 1) = 18446744069414584321 := by decide +kernel
    rw [e5, e6, hc]
    rw [show UInt64.toNat 18446744069414584321 = 18446744069414584321 from rfl] at e2
    simp only [Nat.sub_self, List.take_zero, lv, Nat.pow_zero]
    omega
  obtain ⟨c2, t2, n2, p1, p2, p3⟩ := m172_22_eq N (m172_4 N n) a b z mL t1 i top more (t1.getD 0 0 * 18446744069414584319) rfl 3 N 1 (hi0 + k0) t1 (Nat.le_refl _) rfl (by omega) g1 hv2 (fun _ _ => rfl)
  obtain ⟨t3, k3, r1, r2, r3⟩ := kadd0 top c2
  refine ⟨setL (setL t2 3 t3) 4 (more + k3), (t1.getD 0 0 * 18446744069414584319).toNat, by rw [length_setL, length_setL]; exact p1, ?_, (t1.getD 0 0 * 18446744069414584319).toNat_lt, ?_⟩
  · have hm : (more + k3).toNat = more.toNat + k3.toNat := by rw [UInt64.toNat_add]; omega
    have hL : lv (setL (setL t2 3 t3) 4 (more + k3)) = lv (t2.take 3) + 18446744073709551616 ^ 3 * t3.toNat + 18446744073709551616 ^ 4 * (more.toNat + k3.toNat) := by
      rw [lv_top (by rw [length_setL, length_setL]; exact p1), take_setL _ _ (Nat.le_refl _), getD_setL, if_pos ⟨rfl, by rw [length_setL]; omega⟩, lv_take_setL _ _ (by omega), hm]
    rw [hL, htt]
    rw [lv_mL] at p2
    rw [g3] at f3
    generalize lv (List.take 3 t2) = A1 at *
    generalize lv (List.take 4 t1) = A2 at *
    generalize lv (List.take 4 t) = A3 at *
    generalize (t1.getD 0 0 * 18446744069414584319).toNat * RR = X at *
    generalize lv a * (b.getD i 0).toNat = Y at *
    omega
  · rw [m172_4_succ]
    unfold c172_4
    rw [ltI_true (by omega), cond_true]
    refine g4.trans ?_
    rw [m172_8_succ]
    unfold c172_8
    rw [ltI_false (by omega), cond_false, f1]
    simp only [Option.bind_some]
    rw [show List.getD mL 0 0 = 18446744069414584321 from rfl, e1]
    simp only [Option.bind_some]
    rw [d1]
    simp only [Option.bind_some]
    refine p3.trans ?_
    rw [m172_22_succ]
    unfold c172_22
    rw [ltI_false (by omega), cond_false, r1]
    simp only [Option.bind_some]
    rw [wr_add1 (by omega)]
theorem mont_val {x y T q r : Nat} (h : 18446744073709551616 ^ 4 * T = x * y + q * RR) (hr : r = T ∨ r + RR = T) (hlt : r < RR) : r = x * y * Binv % RR := by
  have e1 : 18446744073709551616 ^ 4 * r % RR = x * y % RR := by
    rcases hr with rfl | hr
    · rw [h, Nat.add_mul_mod_self_right]
    · have : 18446744073709551616 ^ 4 * r + 18446744073709551616 ^ 4 * RR = x * y + q * RR := by rw [← h, ← hr, Nat.mul_add]
      have h2 := congrArg (· % RR) this
      simp only [Nat.add_mul_mod_self_right] at h2
      exact h2
  have e2 : r * (18446744073709551616 ^ 4 * Binv) % RR = r := by
    rw [Nat.mul_mod, binv_is, Nat.mul_one, Nat.mod_mod, Nat.mod_eq_of_lt hlt]
  rw [← e2, ← Nat.mul_assoc, Nat.mul_comm r, Nat.mul_mod, e1, ← Nat.mul_mod]
theorem q172_eq {N : Nat} (hN : 10 < N) {a b : Fr} (ha : fv a < RR) : ∃ r, q172 N a b = some (r, ()) ∧ fv r = fv a * fv b * Binv % RR := by
  have hRR : RR < 18446744073709551616 ^ 4 := by decide
  have hR0 : 0 < RR := by decide
  have hlen : b.l.length = 4 := rfl
  have loop : ∀ (k n i : Nat) (t : List UInt64) (q : Nat), i + k = 4 → k < n → t.length = 5 → lv t < lv a.l + RR → 18446744073709551616 ^ i * lv t = lv a.l * lv (b.l.take i) + q * RR →
      ∃ (t' : List UInt64) (q' n' : Nat), t'.length = 5 ∧ lv t' < lv a.l + RR ∧ 18446744073709551616 ^ 4 * lv t' = lv a.l * lv b.l + q' * RR ∧ m172_4 N n (i : Int) a.l b.l [0, 0, 0, 0] mL t = m172_4 N (n' + 1) 4 a.l b.l [0, 0, 0, 0] mL t' := by
    intro k
    induction k with
    | zero =>
      intro n i t q hi hn ht hl hv
      obtain ⟨n, rfl⟩ : ∃ m, n = m + 1 := ⟨n - 1, by omega⟩
      obtain rfl : i = 4 := by omega
      exact ⟨t, q, n, ht, hl, hv, rfl⟩
    | succ k ih =>
      intro n i t q hi hn ht hl hv
      obtain ⟨n, rfl⟩ : ∃ m, n = m + 1 := ⟨n - 1, by omega⟩
      obtain ⟨t', x, h1, h2, h3, h4⟩ := m172_4_step hN a.l b.l [0, 0, 0, 0] t i (by omega) rfl rfl ht hl n
      have hb : (b.l.getD i 0).toNat ≤ 18446744073709551615 := by have := (b.l.getD i 0).toNat_lt; omega
      have h5 : lv a.l * (b.l.getD i 0).toNat ≤ lv a.l * 18446744073709551615 := Nat.mul_le_mul_left _ hb
      have h6 : x * RR ≤ 18446744073709551615 * RR := Nat.mul_le_mul_right _ (by omega)
      rw [h4]
      exact ih n (i + 1) t' (q + 18446744073709551616 ^ i * x) (by omega) (by omega) h1 (by omega) (by
        rw [Nat.pow_succ, Nat.mul_assoc, h2, lv_take_succ]
        generalize lv (List.take i b.l) = A1 at *
        generalize lv a.l = A2 at *
        generalize lv t = A3 at *
        generalize (b.l.getD i 0).toNat = y at *
        generalize (18446744073709551616 ^ i : Nat) = P at *
        grind)
  obtain ⟨t', q', n', h1, h2, h3, h4⟩ := loop 4 N 0 [0, 0, 0, 0, 0] 0 rfl (by omega) rfl (by simp [lv]; omega) (by simp [lv])
  have hq : q172 N a b = m172_4 N N ((0 : Nat) : Int) a.l b.l [0, 0, 0, 0] mL [0, 0, 0, 0, 0] := rfl
  rw [hq, h4, m172_4_succ]
  unfold c172_4
  obtain ⟨x, hx1, hx2⟩ := of4 (l := t'.take 4) (by rw [List.length_take]; omega)
  have htt := lv_top h1
  have hfx : fv x = lv (t'.take 4) := by rw [fv, hx2]
  have hal : lv a.l = fv a := rfl
  obtain ⟨r, hr1, hr2⟩ := q174_eq hN x (t'.getD 4 0) (by omega) (by omega)
  rw [ltI_false (by omega), cond_false, h1, leN_true (by decide), mst, hx1]
  simp only [Option.bind_some]
  rw [hr1]
  refine ⟨r, rfl, ?_⟩
  have e3 : fv x + 18446744073709551616 ^ 4 * (t'.getD 4 0).toNat = lv t' := by rw [hfx, htt]
  rw [e3] at hr2
  refine mont_val h3 ?_ ?_
  · split at hr2 <;> omega
  · split at hr2 <;> omega
theorem sqN2_is : lv [14526898881837571181, 3129137299524312099, 419701826671360399, 524908885293268753] * Binv % RR = 18446744073709551616 ^ 4 % RR := by decide +kernel
theorem q170_eq {N : Nat} (hN : 10 < N) {a : Fr} (ha : fv a < RR) : ∃ r, q170 N a = some (r, ()) ∧ fv r = fv a * 18446744073709551616 ^ 4 % RR := by
  obtain ⟨r, h1, h2⟩ := q172_eq hN (b := ⟨14526898881837571181, 3129137299524312099, 419701826671360399, 524908885293268753⟩) ha
  refine ⟨r, ?_, ?_⟩
  · unfold q170
    rw [show q213 N = some ((⟨14526898881837571181, 3129137299524312099, 419701826671360399, 524908885293268753⟩ : Fr), ()) from rfl]
    simp only [Option.bind_some]
    rw [h1]
    rfl
  · rw [h2, Nat.mul_assoc, show fv ⟨14526898881837571181, 3129137299524312099, 419701826671360399, 524908885293268753⟩ = lv [14526898881837571181, 3129137299524312099, 419701826671360399, 524908885293268753] from rfl, ← Nat.mul_mod_mod, sqN2_is, Nat.mul_mod_mod]
theorem mod_lt_RR (x : Nat) : x % RR < RR := Nat.mod_lt _ (by decide)
theorem q171_eq {N : Nat} (hN : 10 < N) {a : Fr} (ha : fv a < RR) : ∃ r, q171 N a = some (r, ()) ∧ fv r = fv a * Binv % RR := by
  obtain ⟨r, h1, h2⟩ := q172_eq hN (b := ⟨1, 0, 0, 0⟩) ha
  refine ⟨r, ?_, ?_⟩
  · unfold q171
    rw [h1]
    rfl
  · rw [h2, show fv ⟨1, 0, 0, 0⟩ = 1 from by decide +kernel, Nat.mul_one]
theorem q76_eq {N : Nat} (hN : 10 < N) {a b : Fr} (ha : fv a < RR) : ∃ r, q76 N a b = some (r, ()) ∧ fv r = fv a * fv b % RR := by
  obtain ⟨r, h1, h2⟩ := q172_eq hN (b := b) ha
  obtain ⟨s, h3, h4⟩ := q170_eq hN (a := r) (by rw [h2]; exact mod_lt_RR _)
  refine ⟨s, ?_, ?_⟩
  · unfold q76
    rw [h1]
    simp only [Option.bind_some]
    rw [h3]
    rfl
  · rw [h4, h2, Nat.mod_mul_mod, Nat.mul_assoc, Nat.mul_comm Binv, ← Nat.mul_mod_mod, binv_is, Nat.mul_one]
end Go.Proofs.Ytgimohchocjgcaa.V
