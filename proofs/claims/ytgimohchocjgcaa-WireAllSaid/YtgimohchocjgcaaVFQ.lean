import Derived.Test.YtgimohchocjgcaaVFP
import Derived.KernelRfl
set_option linter.unusedVariables false
set_option linter.unusedSimpArgs false
namespace Go.Proofs.Ytgimohchocjgcaa.V
theorem mst2 {R : Type} {x : Option R} : must true x = x := by rw [mst]
theorem bsm {α β : Type} {a : α} {f : α → Option β} : Option.bind (some a) f = f a := by rw [Option.bind_some]
theorem below_step (a m : List UInt64) (k : Nat) : lv (a.take (k + 1)) < lv (m.take (k + 1)) ↔ ((a.getD k 0).toNat < (m.getD k 0).toNat ∨ ((a.getD k 0).toNat = (m.getD k 0).toNat ∧ lv (a.take k) < lv (m.take k))) := by
  have h1 := lv_take_lt a k
  have h2 := lv_take_lt m k
  rw [lv_take_succ, lv_take_succ]
  generalize lv (a.take k) = A at *
  generalize lv (m.take k) = M at *
  generalize (18446744073709551616 ^ k : Nat) = P at *
  generalize (a.getD k 0).toNat = x
  generalize (m.getD k 0).toNat = y
  rcases Nat.lt_trichotomy x y with h | h | h
  · have h3 : P * (x + 1) ≤ P * y := Nat.mul_le_mul_left _ h
    rw [Nat.mul_add, Nat.mul_one] at h3
    exact ⟨fun _ => .inl h, fun _ => by omega⟩
  · subst h
    constructor
    · intro h; exact .inr ⟨rfl, by omega⟩
    · rintro (h | ⟨_, h⟩) <;> omega
  · have h3 : P * (y + 1) ≤ P * x := Nat.mul_le_mul_left _ h
    rw [Nat.mul_add, Nat.mul_one] at h3
    constructor
    · intro h; omega
    · rintro (h | ⟨h, _⟩) <;> omega
theorem m168_eq (N : Nat) (a m : List UInt64) (hm : m.length < 1000000) (ha : m.length ≤ a.length) : ∀ (k n : Nat), k ≤ m.length → k < n → m168_2 N n a m ((k : Int) - 1) = some (decide (lv (a.take k) < lv (m.take k)), ()) := by
  intro k
  induction k with
  | zero =>
    intro n hk hn
    obtain ⟨n, rfl⟩ : ∃ m, n = m + 1 := ⟨n - 1, by omega⟩
    rw [m168_2_succ]
    unfold c168_2
    rw [leI_false (by omega), cond_false]
    simp [lv]
  | succ k ih =>
    intro n hk hn
    obtain ⟨n, rfl⟩ : ∃ m, n = m + 1 := ⟨n - 1, by omega⟩
    rw [m168_2_succ]
    unfold c168_2
    rw [show ((k + 1 : Nat) : Int) - 1 = (k : Int) by omega, leI_zero, cond_true, ltI_true (show (k : Int) < (a.length : Int) by omega), ltI_true (show (k : Int) < (m.length : Int) by omega)]
    simp only [Bool.and_self, mst, Int.toNat_natCast]
    rw [wr_id (by omega) (by omega), ih n (by omega) (by omega)]
    have e := below_step a m k
    by_cases h : a.getD k 0 = m.getD k 0
    · rw [h]
      simp only [beq_self_eq_true, Bool.not_true, cond_false]
      rw [h] at e
      congr 2
      rw [Bool.eq_iff_iff, decide_eq_true_iff, decide_eq_true_iff, e]
      constructor
      · intro h; exact .inr ⟨rfl, h⟩
      · rintro (h | ⟨_, h⟩)
        · omega
        · exact h
    · rw [beq_eq_false_iff_ne.2 h]
      simp only [Bool.not_false, cond_true]
      have hne : (a.getD k 0).toNat ≠ (m.getD k 0).toNat := fun h2 => h (UInt64.toNat_inj.1 h2)
      congr 2
      rw [Bool.eq_iff_iff, decide_eq_true_iff, e]
      simp only [ltN, decide_eq_true_iff]
      constructor
      · intro h; exact .inl h
      · rintro (h | ⟨h, _⟩)
        · exact h
        · exact absurd h hne
theorem q168_eq {N : Nat} {a m : List UInt64} (hm : m.length < 1000000) (ha : m.length = a.length) (hN : m.length < N) : q168 N a m = some (decide (lv a < lv m), ()) := by
  unfold q168
  rw [wr_id (by omega) (by omega), m168_eq N a m hm (by omega) m.length N (Nat.le_refl _) hN, List.take_of_length_le (by omega), List.take_of_length_le (by omega)]
end Go.Proofs.Ytgimohchocjgcaa.V
