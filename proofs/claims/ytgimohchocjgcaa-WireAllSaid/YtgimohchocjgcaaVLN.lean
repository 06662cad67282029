import Derived.Test.YtgimohchocjgcaaVUL
import Derived.Test.YtgimohchocjgcaaVLM
set_option linter.unusedVariables false
set_option linter.unusedSimpArgs false
namespace Go.Proofs.Ytgimohchocjgcaa.V
theorem q160_eq (N : Nat) (a : List UInt64) (i : Nat) : q160 N a (i : Int) = some (a.getD i 0, ()) := by
  unfold q160
  rw [ltI_nat]
  by_cases h : i < a.length
  · rw [ltN_true h, cond_true, leI_zero, Bool.true_and, must_t rfl]
    rfl
  · rw [ltN_false h, cond_false, getD_zero (by omega)]
def cmpN (a b : Nat) : Int := if a < b then -1 else if b < a then 1 else 0
theorem m61_eq (N : Nat) (a b : List UInt64) : ∀ n k : Nat, k < n → k < 9223372036854775807 → (∀ j, k ≤ j → a.getD j 0 = b.getD j 0) → m61_1000 N n a b (k : Int) = some (cmpN (lv (a.take k)) (lv (b.take k)), ()) := by
  intro n
  induction n with
  | zero => intro k h; omega
  | succ n ih =>
    intro k hn hb h0
    rw [m61_1000_succ]
    unfold c61_1000
    cases k with
    | zero =>
      rw [show wr (((0 : Nat) : Int) - 1) = -1 from wr_id (by omega) (by omega), show ltI (-1) 0 = true from rfl, cond_true]
      simp [cmpN, lv]
    | succ k =>
      rw [wr_sub1 (by omega), ltI_zero, cond_false, q160_eq, q160_eq, lv_take_succ, lv_take_succ]
      simp only [Option.bind_some]
      have h1 := lv_take_lt a k
      have h2 := lv_take_lt b k
      generalize 18446744073709551616 ^ k = p at h1 h2 ⊢
      by_cases e1 : (a.getD k 0).toNat < (b.getD k 0).toNat
      · rw [ltN_true e1, cond_true]
        have : p * ((a.getD k 0).toNat + 1) ≤ p * (b.getD k 0).toNat := Nat.mul_le_mul_left _ e1
        rw [Nat.mul_add] at this
        simp only [cmpN]
        rw [if_pos (by omega)]
      · rw [ltN_false e1, cond_false]
        by_cases e2 : (b.getD k 0).toNat < (a.getD k 0).toNat
        · rw [ltN_true e2, cond_true]
          have : p * ((b.getD k 0).toNat + 1) ≤ p * (a.getD k 0).toNat := Nat.mul_le_mul_left _ e2
          rw [Nat.mul_add] at this
          simp only [cmpN]
          rw [if_neg (by omega), if_pos (by omega)]
        · rw [ltN_false e2, cond_false]
          have e3 : (a.getD k 0).toNat = (b.getD k 0).toNat := by omega
          rw [ih k (by omega) (by omega) fun j hj => ?_]
          · simp only [cmpN, e3, Nat.add_lt_add_iff_right]
          · by_cases e : j = k
            · rw [e]; exact UInt64.toNat_inj.1 e3
            · exact h0 j (by omega)
theorem q61_eq {N : Nat} {a b : List UInt64} (ha : a.length < 1000000) (hb : b.length < 1000000) (hN : max a.length b.length < N) : q61 N a b = some (cmpN (lv a) (lv b), ()) := by
  unfold q61
  rw [mxI_nat, m61_eq N a b N _ hN (by omega) fun j hj => by rw [getD_zero (by omega), getD_zero (by omega)], lv_take_all (by omega), lv_take_all (by omega)]
theorem kAdd_eq {x y c : UInt64} (h : c.toNat ≤ 1) : ∃ s d : UInt64, kAdd x y c = some (s, d) ∧ d.toNat ≤ 1 ∧ s.toNat + 18446744073709551616 * d.toNat = x.toNat + y.toNat + c.toNat := by
  have hx := x.toNat_lt
  have hy := y.toNat_lt
  refine ⟨addS x y c, addC x y c, ?_, ?_, ?_⟩
  · unfold kAdd; rw [leN_true h, cond_true]
  · rw [addC, ofN _ (by omega)]; omega
  · rw [addC, addS, ofN _ (by omega), ofN _ (by omega)]; omega
theorem kSub_eq {x y c : UInt64} (h : c.toNat ≤ 1) : ∃ s d : UInt64, kSub x y c = some (s, d) ∧ d.toNat ≤ 1 ∧ s.toNat + y.toNat + c.toNat = x.toNat + 18446744073709551616 * d.toNat := by
  have hx := x.toNat_lt
  have hy := y.toNat_lt
  refine ⟨subS x y c, subC x y c, ?_, ?_, ?_⟩
  · unfold kSub; rw [leN_true h, cond_true]
  · unfold subC
    cases ltN x.toNat (y.toNat + c.toNat) <;> simp
  · rw [subS, ofN _ (Nat.mod_lt _ (by decide))]
    unfold subC
    by_cases h1 : x.toNat < y.toNat + c.toNat
    · rw [ltN_true h1]; simp; omega
    · rw [ltN_false h1]; simp; omega
end Go.Proofs.Ytgimohchocjgcaa.V
