import Derived.Test.YtgimohchocjgcaaVLN
set_option linter.unusedVariables false
set_option linter.unusedSimpArgs false
namespace Go.Proofs.Ytgimohchocjgcaa.V
theorem shr64_nat (x : UInt64) (n : Nat) : (shr64 x n).toNat = x.toNat / 2 ^ n := by
  unfold shr64
  rw [UInt64.toNat_ofNat']
  exact Nat.mod_eq_of_lt (Nat.lt_of_le_of_lt (Nat.div_le_self _ _) x.toNat_lt)
theorem mask32 (x : UInt64) : (x &&& 4294967295).toNat = x.toNat % 4294967296 := by
  rw [UInt64.toNat_and]
  exact Nat.and_two_pow_sub_one_eq_mod x.toNat 32
theorem mul_parts {a b c d m n : Nat} (ha : a < m) (hb : b < n) : a * b ≤ (m - 1) * (n - 1) := Nat.mul_le_mul (by omega) (by omega)
theorem q163_eq (N : Nat) (x y : UInt64) : ∃ h l : UInt64, q163 N x y = some (h, l, ()) ∧ h.toNat * 18446744073709551616 + l.toNat = x.toNat * y.toNat := by
  refine ⟨_, _, rfl, ?_⟩
  have hx := x.toNat_lt
  have hy := y.toNat_lt
  simp only [UInt64.toNat_add, UInt64.toNat_mul, shr64_nat, mask32, show (32 : UInt64).toNat = 32 from rfl]
  generalize hX : x.toNat = X at *
  generalize hY : y.toNat = Y at *
  have e1 : (2 : Nat) ^ 64 = 18446744073709551616 := by decide
  have e2 : (2 : Nat) ^ 32 = 4294967296 := by decide
  simp only [e1, e2] at *
  have hX1 : X = 4294967296 * (X / 4294967296) + X % 4294967296 := (Nat.div_add_mod X 4294967296).symm
  have hY1 : Y = 4294967296 * (Y / 4294967296) + Y % 4294967296 := (Nat.div_add_mod Y 4294967296).symm
  have b1 : X / 4294967296 < 4294967296 := by omega
  have b2 : Y / 4294967296 < 4294967296 := by omega
  have b3 : X % 4294967296 < 4294967296 := Nat.mod_lt _ (by decide)
  have b4 : Y % 4294967296 < 4294967296 := Nat.mod_lt _ (by decide)
  generalize X / 4294967296 = x1 at *
  generalize X % 4294967296 = x0 at *
  generalize Y / 4294967296 = y1 at *
  generalize Y % 4294967296 = y0 at *
  have hp : X * Y = 18446744073709551616 * (x1 * y1) + 4294967296 * (x1 * y0) + 4294967296 * (x0 * y1) + x0 * y0 := by
    rw [hX1, hY1]
    simp only [Nat.add_mul, Nat.mul_add]
    have q1 : 4294967296 * x1 * (4294967296 * y1) = 18446744073709551616 * (x1 * y1) := by
      rw [show (18446744073709551616 : Nat) = 4294967296 * 4294967296 by decide]
      simp only [Nat.mul_assoc, Nat.mul_left_comm x1]
    have q2 : 4294967296 * x1 * y0 = 4294967296 * (x1 * y0) := Nat.mul_assoc _ _ _
    have q3 : x0 * (4294967296 * y1) = 4294967296 * (x0 * y1) := Nat.mul_left_comm _ _ _
    rw [q1, q2, q3]
    omega
  have p1 := mul_parts (c := 0) (d := 0) b1 b2
  have p2 := mul_parts (c := 0) (d := 0) b1 b4
  have p3 := mul_parts (c := 0) (d := 0) b3 b2
  have p4 := mul_parts (c := 0) (d := 0) b3 b4
  rw [hp]
  generalize x1 * y1 = a at *
  generalize x1 * y0 = b at *
  generalize x0 * y1 = c at *
  generalize x0 * y0 = d at *
  omega
theorem lv_zeros (n : Nat) : lv (List.replicate n 0) = 0 := by
  induction n with
  | zero => rfl
  | succ n ih => rw [List.replicate_succ]; simp [lv, ih]
theorem lv_take_zeros (n k : Nat) : lv ((List.replicate n 0).take k) = 0 := by
  rw [List.take_replicate]; exact lv_zeros _
theorem getD_zeros (n k : Nat) : (List.replicate n (0 : UInt64)).getD k 0 = 0 := by
  rw [List.getD_eq_getElem?_getD, List.getElem?_replicate]
  split <;> rfl
theorem m55_7_eq (N : Nat) (A : List UInt64 → List UInt64 → Int → Int → List UInt64 → Option (List UInt64 × Unit)) (b : List UInt64) (i : Nat) (x : UInt64) (t21 : List UInt64) (t22 : Int) (out0 : List UInt64) (hL : i + b.length < out0.length) (hb : out0.length < 1000000) :
    ∀ n j : Nat, ∀ over : UInt64, ∀ out : List UInt64, j ≤ b.length → b.length - j < n → out.length = out0.length → (∀ k, i + j ≤ k → out.getD k 0 = out0.getD k 0) →
      lv (out.take (i + j)) + 18446744073709551616 ^ (i + j) * over.toNat = lv (out0.take (i + j)) + 18446744073709551616 ^ i * (x.toNat * lv (b.take j)) →
      ∃ out', out'.length = out0.length ∧ (∀ k, i + b.length + 1 ≤ k → out'.getD k 0 = out0.getD k 0) ∧ lv (out'.take (i + b.length + 1)) = lv (out0.take (i + b.length)) + 18446744073709551616 ^ i * (x.toNat * lv b) ∧
        m55_7 N A n b (i : Int) x over t21 t22 (i : Int) b (b.length : Int) (j : Int) out = A b t21 t22 ((i + 1 : Nat) : Int) out' := by
  intro n
  induction n with
  | zero => intro j over out _ h; omega
  | succ n ih =>
    intro j over out hj hn hl hsame hinv
    rw [m55_7_succ]
    unfold c55_7
    rw [ltI_nat]
    by_cases h : j < b.length
    · rw [ltN_true h, cond_true, leI_zero, must_tt]
      simp only [Int.toNat_natCast]
      obtain ⟨hi, lo, h1, h2⟩ := q163_eq N x (b.getD j 0)
      rw [h1]
      simp only [Option.bind_some]
      have e1 : wr ((i : Int) + (j : Int)) = ((i + j : Nat) : Int) := by rw [wr_id (by omega) (by omega)]; omega
      rw [e1, leI_zero, ltI_nat, ltN_true (by omega), must_tt]
      simp only [Int.toNat_natCast]
      obtain ⟨s1, c1, h3, h4, h5⟩ := kAdd_eq (x := lo) (y := out.getD (i + j) 0) (c := 0) (by simp)
      obtain ⟨s2, c2, h6, h7, h8⟩ := kAdd_eq (x := s1) (y := over) (c := 0) (by simp)
      rw [h3]
      simp only [Option.bind_some]
      rw [h6]
      simp only [Option.bind_some]
      rw [must_tt, wr_add1 (by omega)]
      simp only [UInt64.toNat_zero, Nat.add_zero] at h5 h8
      have hxl := x.toNat_lt
      have hyl := (b.getD j 0).toNat_lt
      have hol := (out.getD (i + j) 0).toNat_lt
      have hvl := over.toNat_lt
      have e64 : (2 : Nat) ^ 64 = 18446744073709551616 := by decide
      rw [e64] at hxl hyl hol hvl
      have hprod := mul_parts (c := 0) (d := 0) hxl hyl
      have hov : (hi + c1 + c2).toNat = hi.toNat + c1.toNat + c2.toNat := by
        simp only [UInt64.toNat_add]
        rw [e64]
        omega
      have htot : s2.toNat + 18446744073709551616 * (hi + c1 + c2).toNat = x.toNat * (b.getD j 0).toNat + (out.getD (i + j) 0).toNat + over.toNat := by
        rw [hov]; omega
      refine ih (j + 1) (hi + c1 + c2) (setL out (i + j) s2) h (by omega) (by rw [length_setL]; exact hl) (fun k hk => ?_) ?_
      · rw [getD_setL, if_neg (by omega)]
        exact hsame k (by omega)
      · rw [show i + (j + 1) = i + j + 1 by omega, lv_take_setL out s2 (by omega), lv_take_succ, lv_take_succ, ← hsame (i + j) (Nat.le_refl _), Nat.pow_succ]
        have key : 18446744073709551616 ^ (i + j) * (s2.toNat + 18446744073709551616 * (hi + c1 + c2).toNat) = 18446744073709551616 ^ (i + j) * (x.toNat * (b.getD j 0).toNat + (out.getD (i + j) 0).toNat + over.toNat) := by rw [htot]
        rw [Nat.pow_add] at hinv key ⊢
        generalize 18446744073709551616 ^ i = p at hinv key ⊢
        generalize 18446744073709551616 ^ j = q at hinv key ⊢
        generalize (hi + c1 + c2).toNat = v at key ⊢
        generalize lv (List.take (i + j) out) = w1 at hinv ⊢
        generalize lv (List.take (i + j) out0) = w2 at hinv ⊢
        generalize lv (List.take j b) = w3 at hinv ⊢
        generalize (out.getD (i + j) 0).toNat = o at key ⊢
        generalize (b.getD j 0).toNat = y at key ⊢
        generalize x.toNat = xn at hinv key ⊢
        generalize over.toNat = ov at hinv key ⊢
        generalize s2.toNat = sn at key ⊢
        have k2 : p * q * sn + p * q * 18446744073709551616 * v = p * q * (xn * y) + p * q * o + p * q * ov := by
          simp only [Nat.mul_add] at key
          rw [Nat.mul_assoc (p * q) 18446744073709551616 v]
          exact key
        have k3 : p * (xn * (w3 + q * y)) = p * (xn * w3) + p * q * (xn * y) := by
          rw [Nat.mul_add, Nat.mul_add]
          congr 1
          rw [Nat.mul_left_comm xn q y, Nat.mul_assoc]
        rw [k3]
        omega
    · obtain rfl : j = b.length := by omega
      rw [ltN_false h, cond_false]
      have e1 : wr ((i : Int) + (b.length : Int)) = ((i + b.length : Nat) : Int) := by rw [wr_id (by omega) (by omega)]; omega
      rw [e1, leI_zero, ltI_nat, ltN_true (by omega), must_tt, wr_add1 (by omega)]
      simp only [Int.toNat_natCast]
      refine ⟨setL out (i + b.length) over, by rw [length_setL]; exact hl, fun k hk => ?_, ?_, rfl⟩
      · rw [getD_setL, if_neg (by omega)]
        exact hsame k (by omega)
      · rw [lv_take_setL out over (by omega), hinv, lv_take_all (l := b) (Nat.le_refl _)]
theorem m55_3_eq (N : Nat) (a b : List UInt64) (ha : a.length < 10000) (hb : b.length < 10000) (hN : a.length + b.length < N) : ∀ n i : Nat, ∀ out : List UInt64, i ≤ a.length → a.length - i < n → out.length = a.length + b.length →
    (∀ k, i + b.length ≤ k → out.getD k 0 = 0) → lv (out.take (i + b.length)) = lv (a.take i) * lv b → ∃ s, m55_3 N n b a (a.length : Int) (i : Int) out = some (s, ()) ∧ Nrm s ∧ lv s = lv a * lv b := by
  intro n
  induction n with
  | zero => intro i out _ h; omega
  | succ n ih =>
    intro i out hi hn hl hz hinv
    rw [m55_3_succ]
    unfold c55_3
    rw [ltI_nat]
    by_cases h : i < a.length
    · rw [ltN_true h, cond_true, leI_zero, must_tt]
      simp only [Int.toNat_natCast]
      obtain ⟨out', h1, h2, h3, h4⟩ := m55_7_eq N (m55_3 N n) b i (a.getD i 0) a (a.length : Int) out (by omega) (by omega) N 0 0 out (Nat.zero_le _) (by omega) rfl (fun k _ => rfl) (by simp [lv])
      have h4' : m55_7 N (m55_3 N n) N b (i : Int) (a.getD i 0) 0 a (a.length : Int) (i : Int) b (b.length : Int) 0 out = m55_3 N n b a (a.length : Int) ((i + 1 : Nat) : Int) out' := h4
      rw [h4']
      refine ih (i + 1) out' h (by omega) (by omega) (fun k hk => ?_) ?_
      · rw [h2 k (by omega)]; exact hz k (by omega)
      · rw [show i + 1 + b.length = i + b.length + 1 by omega, h3, hinv, lv_take_succ, Nat.add_mul, Nat.mul_assoc]
    · obtain rfl : i = a.length := by omega
      rw [ltN_false h, cond_false, q158_eq (by omega) (by omega)]
      refine ⟨cutL out, rfl, Nrm_cutL _, ?_⟩
      rw [lv_cutL, ← lv_take_all (l := out) (n := a.length + b.length) (by omega), hinv, lv_take_all (l := a) (Nat.le_refl _)]
theorem q55_eq {N : Nat} {a b : List UInt64} (ha : a.length < 10000) (hb : b.length < 10000) (hN : a.length + b.length < N) : ∃ s, q55 N a b = some (s, ()) ∧ Nrm s ∧ lv s = lv a * lv b := by
  unfold q55
  have e1 : wr ((a.length : Int) + (b.length : Int)) = ((a.length + b.length : Nat) : Int) := by rw [wr_id (by omega) (by omega)]; omega
  rw [e1, leI_zero, eqI_true rfl, must_t (by simp only [Bool.true_and, Int.toNat_natCast]; exact leN_true (by omega))]
  simp only [Int.toNat_natCast]
  obtain ⟨s, h1, h2, h3⟩ := m55_3_eq N a b ha hb hN N 0 (List.replicate (a.length + b.length) 0) (Nat.zero_le _) (by omega) (by simp) (fun k _ => getD_zeros _ _) (by rw [lv_take_zeros]; simp [lv])
  exact ⟨s, by rw [← h1]; rfl, h2, h3⟩
end Go.Proofs.Ytgimohchocjgcaa.V
