/- Numbers and lists, as plain texts speak of them. -/
import Derived.Test.YtgimohchocjgcaaVKD
set_option linter.unusedVariables false
set_option linter.unusedSimpArgs false
namespace Go.Proofs.Ytgimohchocjgcaa.V

theorem wr_id {x : Int} (h1 : -9223372036854775808 ≤ x) (h2 : x ≤ 9223372036854775807) : wr x = x := by
  have hw : wr x = if 9223372036854775808 ≤ x % 18446744073709551616 then x % 18446744073709551616 - 18446744073709551616 else x % 18446744073709551616 := by
    simp [wr, IntKind.wrap, IntKind.bits, IntKind.signed]
  rw [hw]
  split <;> omega

theorem wr_add1 {i : Nat} (h : i < 9223372036854775807) : wr ((i : Int) + 1) = ((i + 1 : Nat) : Int) := by
  rw [wr_id (by omega) (by omega)]; omega

theorem ltI_nat (a b : Nat) : ltI (a : Int) (b : Int) = ltN a b := by simp [ltI, ltN]
theorem leI_nat (a b : Nat) : leI (a : Int) (b : Int) = leN a b := by simp [leI, leN]
theorem eqI_nat (a b : Nat) : eqI (a : Int) (b : Int) = decide (a = b) := by simp only [eqI, Int.ofNat_inj]
theorem leI_zero (a : Nat) : leI 0 (a : Int) = true := by simp [leI]
theorem ltI_zero (a : Nat) : ltI (a : Int) 0 = false := by simp [ltI]
theorem ltN_true {a b : Nat} (h : a < b) : ltN a b = true := by simp [ltN, h]
theorem ltN_false {a b : Nat} (h : ¬ a < b) : ltN a b = false := by simp only [ltN, decide_eq_false_iff_not]; exact h
theorem leN_true {a b : Nat} (h : a ≤ b) : leN a b = true := by simp [leN, h]
theorem leN_false {a b : Nat} (h : ¬ a ≤ b) : leN a b = false := by simp only [leN, decide_eq_false_iff_not]; exact h
theorem ltI_true {a b : Int} (h : a < b) : ltI a b = true := by simp [ltI, h]
theorem ltI_false {a b : Int} (h : ¬ a < b) : ltI a b = false := by simp only [ltI, decide_eq_false_iff_not]; exact h
theorem leI_true {a b : Int} (h : a ≤ b) : leI a b = true := by simp [leI, h]
theorem leI_false {a b : Int} (h : ¬ a ≤ b) : leI a b = false := by simp only [leI, decide_eq_false_iff_not]; exact h
theorem eqI_true {a b : Int} (h : a = b) : eqI a b = true := by simp [eqI, h]
theorem eqI_false {a b : Int} (h : ¬ a = b) : eqI a b = false := by simp only [eqI, decide_eq_false_iff_not]; exact h

theorem must_t {R : Type} {g : Bool} {x : Option R} (h : g = true) : must g x = x := by rw [h]; rfl
theorem must_tt {R : Type} {x : Option R} : must (true && true) x = x := rfl
theorem cond_t {α : Type} {g : Bool} {x y : α} (h : g = true) : cond g x y = x := by rw [h]; rfl
theorem cond_f {α : Type} {g : Bool} {x y : α} (h : g = false) : cond g x y = y := by rw [h]; rfl

end Go.Proofs.Ytgimohchocjgcaa.V
