import Derived.Test.YtgimohchocjgcaaVFS
import Derived.KernelRfl
set_option linter.unusedVariables false
set_option linter.unusedSimpArgs false
namespace Go.Proofs.Ytgimohchocjgcaa.V
theorem fv_small (n : UInt64) : fv ⟨n, 0, 0, 0⟩ = n.toNat := by simp [fv, Fr.l, lv]
theorem q69_eq {N : Nat} (hN : 10 < N) (a : Fr) : q69 N a = some (decide (fv a < RR), ()) := by
  have hq : q69 N a = Option.bind (q168 N a.l mL) fun r1 => some ((Prod.fst r1, ())) := rfl
  rw [hq, q168_eq (N := N) (a := a.l) (m := mL) (by decide) rfl (by show 4 < N; omega), lv_mL]
  rfl
theorem cmpN_lt (x y : Nat) : ltI (cmpN x y) 0 = decide (x < y) := by
  unfold cmpN
  split
  · rename_i h; rw [decide_eq_true h]; rfl
  · rename_i h
    rw [decide_eq_false h]
    split <;> rfl
theorem q79_eq {N : Nat} (hN : 10 < N) (a : Fr) : q79 N a = some (decide (fv a < RR), ()) := by
  have hq : q79 N a = Option.bind (q61 N a.l mL) fun r1 => some (((ltI (Prod.fst r1) (0 : Int)), ())) := rfl
  rw [hq, q61_eq (N := N) (a := a.l) (b := mL) (show (4 : Nat) < 1000000 by omega) (show (4 : Nat) < 1000000 by omega) (show max 4 4 < N by omega), lv_mL]
  simp only [bsm]
  rw [cmpN_lt]
  rfl
theorem q76_eq' {N : Nat} (hN : 10 < N) {a b : Fr} (ha : fv a < RR) : q76 N a b = some (frN (fv a * fv b % RR), ()) := by
  obtain ⟨r, h1, h2⟩ := q76_eq hN (b := b) ha
  rw [h1, is_frN h2]
theorem bit_of (e : List UInt64) (i : Nat) : ((shr64 (e.getD (i / 64) 0) (i % 64) &&& 1) == 1) = decide (lv e / 2 ^ i % 2 = 1) := by
  have h : (shr64 (e.getD (i / 64) 0) (i % 64) &&& 1).toNat = lv e / 2 ^ i % 2 := by
    rw [and_one, shr64_nat, bit_nat, bit_nat, lv_bit]
  rw [Bool.eq_iff_iff, beq_iff_eq, decide_eq_true_iff, ← h, ← UInt64.toNat_inj]
  rfl
theorem pow_bit (a E i M : Nat) : (a ^ (E / 2 ^ (i + 1)) * a ^ (E / 2 ^ (i + 1)) * (if E / 2 ^ i % 2 = 1 then a else 1)) = a ^ (E / 2 ^ i) := by
  have e : E / 2 ^ i = 2 * (E / 2 ^ (i + 1)) + E / 2 ^ i % 2 := by
    rw [Nat.pow_succ, ← Nat.div_div_eq_div_mul]; omega
  have h2 : E / 2 ^ i % 2 = 0 ∨ E / 2 ^ i % 2 = 1 := by omega
  rw [← Nat.pow_add]
  rcases h2 with h | h
  · rw [h, if_neg (by omega), Nat.mul_one]; congr 1; omega
  · rw [h, if_pos rfl, ← Nat.pow_succ]; congr 1; omega
def Cg (a b : Nat) : Prop := a % RR = b % RR
theorem Cg.rfl' {a : Nat} : Cg a a := rfl
theorem Cg.symm {a b : Nat} (h : Cg a b) : Cg b a := Eq.symm h
theorem Cg.trans {a b c : Nat} (h : Cg a b) (g : Cg b c) : Cg a c := Eq.trans h g
theorem Cg.mul {a b c d : Nat} (h1 : Cg a b) (h2 : Cg c d) : Cg (a * c) (b * d) := by
  unfold Cg at *
  rw [Nat.mul_mod, h1, h2, ← Nat.mul_mod]
theorem Cg.add {a b c d : Nat} (h1 : Cg a b) (h2 : Cg c d) : Cg (a + c) (b + d) := by
  unfold Cg at *
  rw [Nat.add_mod, h1, h2, ← Nat.add_mod]
theorem Cg.mod (a : Nat) : Cg (a % RR) a := Nat.mod_mod _ _
theorem Cg.of_eq {a b : Nat} (h : a = b) : Cg a b := by rw [h]; exact Cg.rfl'
theorem Cg.lt {a b : Nat} (h : Cg a b) (ha : a < RR) : a = b % RR := by
  unfold Cg at h
  rw [← h, Nat.mod_eq_of_lt ha]
theorem cgB (x : Nat) : Cg (x * (18446744073709551616 ^ 4 * Binv)) x := by
  have : Cg (18446744073709551616 ^ 4 * Binv) 1 := by unfold Cg; rw [binv_is]; decide
  have h := (Cg.rfl' (a := x)).mul this
  rwa [Nat.mul_one] at h
theorem half_alg (p q B C : Nat) : p * B * (q * B) * C = p * q * B * (B * C) := by grind
theorem half_rep {x y p q : Nat} (hx : Cg x (p * 18446744073709551616 ^ 4)) (hy : Cg y (q * 18446744073709551616 ^ 4)) : Cg (x * y * Binv % RR) (p * q * 18446744073709551616 ^ 4) :=
  (Cg.mod _).trans (((hx.mul hy).mul Cg.rfl').trans ((Cg.of_eq (half_alg p q _ Binv)).trans (cgB _)))
theorem m72_eq {N : Nat} (hN : 10 < N) (a : Nat) (e z : List UInt64) (he : e.length < 1000) (u : Fr) (hu : fv u < RR) (hu2 : Cg (fv u) (a * 18446744073709551616 ^ 4)) : ∀ (i n : Nat) (x : Fr), i < n → i ≤ 64 * e.length → fv x < RR → Cg (fv x) (a ^ (lv e / 2 ^ i) * 18446744073709551616 ^ 4) →
    m72_1000 N n e (i : Int) z u.l x.l = some (frN (a ^ lv e % RR), ()) := by
  intro i
  induction i with
  | zero =>
    intro n x hn hi hx hx2
    obtain ⟨n, rfl⟩ : ∃ m, n = m + 1 := ⟨n - 1, by omega⟩
    obtain ⟨r, h1, h2⟩ := q171_eq hN hx
    have e1 : wr (((0 : Nat) : Int) - 1) = -1 := by decide
    rw [m72_1000_succ]
    unfold c72_1000
    rw [e1, ltI_true (by omega), cond_true, show Fr.of? x.l = some x from rfl]
    simp only [bsm]
    rw [h1]
    simp only [bsm]
    have : r = frN (a ^ lv e % RR) := is_frN (by
      rw [h2]
      rw [Nat.pow_zero, Nat.div_one] at hx2
      exact ((hx2.mul Cg.rfl').trans ((Cg.of_eq (Nat.mul_assoc _ _ _)).trans (cgB _))))
    rw [← this]
  | succ i ih =>
    intro n x hn hi hx hx2
    obtain ⟨n, rfl⟩ : ∃ m, n = m + 1 := ⟨n - 1, by omega⟩
    obtain ⟨y, h1, h2⟩ := q172_eq hN (a := x) (b := x) hx
    have hy : fv y < RR := by rw [h2]; exact mod_lt_RR _
    have hy2 : Cg (fv y) (a ^ (lv e / 2 ^ (i + 1)) * a ^ (lv e / 2 ^ (i + 1)) * 18446744073709551616 ^ 4) := by rw [h2]; exact half_rep hx2 hx2
    obtain ⟨w, g1, g2⟩ := q172_eq hN (a := y) (b := u) hy
    have hw : fv w < RR := by rw [g2]; exact mod_lt_RR _
    have hw2 : Cg (fv w) (a ^ (lv e / 2 ^ (i + 1)) * a ^ (lv e / 2 ^ (i + 1)) * a * 18446744073709551616 ^ 4) := by rw [g2]; exact half_rep hy2 hu2
    have hpb := pow_bit a (lv e) i 0
    have t1 : wr (Int.tdiv (i : Int) 64) = ((i / 64 : Nat) : Int) := by rw [show Int.tdiv (i : Int) 64 = ((i / 64 : Nat) : Int) from rfl, wr_id (by omega) (by omega)]
    have t2 : (u64I (Int.tmod (i : Int) 64)).toNat = i % 64 := by rw [show Int.tmod (i : Int) 64 = ((i % 64 : Nat) : Int) from rfl, u64I_nat (by omega)]
    rw [m72_1000_succ]
    unfold c72_1000
    rw [wr_sub1 (by omega), ltI_false (by omega), cond_false, show Fr.of? x.l = some x from rfl, show Fr.of? u.l = some u from rfl]
    simp only [bsm]
    rw [h1]
    simp only [bsm]
    rw [t1, t2, leI_zero, ltI_true (by omega), Int.toNat_natCast, bit_of]
    simp only [Bool.and_self, mst2]
    by_cases hb : lv e / 2 ^ i % 2 = 1
    · rw [decide_eq_true hb, cond_true, g1]
      simp only [bsm]
      rw [if_pos hb] at hpb
      rw [hpb] at hw2
      exact ih n w (by omega) (by omega) hw hw2
    · rw [decide_eq_false hb, cond_false]
      rw [if_neg hb, Nat.mul_one] at hpb
      rw [hpb] at hy2
      exact ih n y (by omega) (by omega) hy hy2
theorem q72_eq {N : Nat} {a : Fr} {e : List UInt64} (ha : fv a < RR) (he : 64 * e.length + 100 < N) (he2 : e.length < 1000) : q72 N a e = some (frN (fv a ^ lv e % RR), ()) := by
  obtain ⟨u, h1, h2⟩ := q170_eq (N := N) (by omega) ha
  obtain ⟨x, g1, g2⟩ := q170_eq (N := N) (a := ⟨1, 0, 0, 0⟩) (by omega) (by rw [fv_small]; decide)
  unfold q72
  rw [h1]
  simp only [bsm]
  rw [g1]
  simp only [bsm]
  rw [show wr (64 * (e.length : Int)) = ((64 * e.length : Nat) : Int) by rw [wr_id (by omega) (by omega)]; omega]
  have hlt : lv e / 2 ^ (64 * e.length) = 0 := by
    apply Nat.div_eq_of_lt
    have := lv_lt e
    rw [Nat.pow_mul]
    exact this
  exact m72_eq (by omega) (fv a) e [0, 0, 0, 0] he2 u (by rw [h2]; exact mod_lt_RR _) (by rw [h2]; exact Cg.mod _) (64 * e.length) N x (by omega) (Nat.le_refl _) (by rw [g2]; exact mod_lt_RR _) (by rw [g2, hlt, Nat.pow_zero, fv_small]; exact Cg.mod _)
end Go.Proofs.Ytgimohchocjgcaa.V
