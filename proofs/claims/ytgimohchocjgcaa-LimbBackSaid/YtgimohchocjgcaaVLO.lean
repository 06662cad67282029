import Derived.Test.YtgimohchocjgcaaVLN
set_option linter.unusedVariables false
set_option linter.unusedSimpArgs false
namespace Go.Proofs.Ytgimohchocjgcaa.V
theorem shr64_nat (x : UInt64) (n : Nat) : (shr64 x n).toNat = x.toNat / 2 ^ n := by
  unfold shr64
  rw [UInt64.toNat_ofNat']
  exact Nat.mod_eq_of_lt (Nat.lt_of_le_of_lt (Nat.div_le_self _ _) x.toNat_lt)
theorem lv_zeros (n : Nat) : lv (List.replicate n 0) = 0 := by
  induction n with
  | zero => rfl
  | succ n ih => rw [List.replicate_succ]; simp [lv, ih]
theorem m54_eq (N : Nat) (a b : List UInt64) (hab : a.length = b.length) (ha : a.length < 1000000) : ∀ n i : Nat, i ≤ a.length → a.length - i < n → (∀ j, j < i → a.getD j 0 = b.getD j 0) → m54_4 N n a b (i : Int) = some (decide (a = b), ()) := by
  intro n
  induction n with
  | zero => intro i _ h; omega
  | succ n ih =>
    intro i hi hn h0
    rw [m54_4_succ]
    unfold c54_4
    rw [ltI_nat]
    by_cases h : i < a.length
    · rw [ltN_true h, cond_true, leI_zero, must_tt, ltI_nat, ltN_true (by omega), must_tt]
      simp only [Int.toNat_natCast]
      by_cases e : a.getD i 0 = b.getD i 0
      · rw [e]
        simp only [beq_self_eq_true, Bool.not_true, cond_false]
        rw [wr_add1 (by omega)]
        refine ih (i + 1) h (by omega) fun j hj => ?_
        by_cases e2 : j = i
        · rw [e2]; exact e
        · exact h0 j (by omega)
      · rw [beq_eq_false_iff_ne.2 e]
        simp only [Bool.not_false, cond_true]
        have : a ≠ b := fun e2 => e (by rw [e2])
        simp [this]
    · rw [ltN_false h, cond_false]
      have : a = b := by
        apply List.ext_getElem hab
        intro j h1 h2
        have := h0 j (by omega)
        rw [List.getD_eq_getElem?_getD, List.getD_eq_getElem?_getD, List.getElem?_eq_getElem h1, List.getElem?_eq_getElem h2] at this
        exact this
      simp [this]
theorem q54_eq {N : Nat} {a b : List UInt64} (ha : a.length < 1000000) (hN : a.length < N) : q54 N a b = some (decide (a = b), ()) := by
  unfold q54
  by_cases h : a.length = b.length
  · rw [eqI_true (by omega)]
    exact m54_eq N a b h ha N 0 (Nat.zero_le _) hN fun j hj => absurd hj (Nat.not_lt_zero _)
  · rw [eqI_false (by omega)]
    have : a ≠ b := fun e => h (by rw [e])
    simp [this]
end Go.Proofs.Ytgimohchocjgcaa.V
