import Derived.Test.YtgimohchocjgcaaVME
set_option linter.unusedVariables false
set_option linter.unusedSimpArgs false
namespace Go.Proofs.Ytgimohchocjgcaa.V
def lv : List UInt64 → Nat
  | [] => 0
  | x :: l => x.toNat + 18446744073709551616 * lv l
def cutL : List UInt64 → List UInt64
  | [] => []
  | x :: l => match cutL l with
    | [] => if x = 0 then [] else [x]
    | y :: r => x :: y :: r
theorem lv_cutL (l : List UInt64) : lv (cutL l) = lv l := by
  induction l with
  | nil => rfl
  | cons x l ih =>
    simp only [cutL]
    split
    · rename_i h
      rw [h] at ih
      have ih : 0 = lv l := ih
      split
      · rename_i h2; subst h2; simp [lv, ← ih]
      · simp [lv, ← ih]
    · rename_i y r h
      rw [h] at ih
      simp only [lv] at ih ⊢
      omega
theorem cutL_zero {l : List UInt64} (h : lv l = 0) : cutL l = [] := by
  induction l with
  | nil => rfl
  | cons x l ih =>
    simp only [lv] at h
    have h1 : x.toNat = 0 := by omega
    have h2 : x = 0 := UInt64.toNat_inj.1 (by simpa using h1)
    simp [cutL, ih (by omega), h2]
theorem cutL_eq {l m : List UInt64} (h : lv l = lv m) : cutL l = cutL m := by
  induction l generalizing m with
  | nil => rw [cutL_zero (l := m) (by rw [← h]; rfl)]; rfl
  | cons x l ih =>
    cases m with
    | nil => rw [cutL_zero (l := x :: l) (by rw [h]; rfl)]; rfl
    | cons y m =>
      simp only [lv] at h
      have hx := x.toNat_lt
      have hy := y.toNat_lt
      have h1 : x.toNat = y.toNat := by omega
      have h2 : x = y := UInt64.toNat_inj.1 h1
      subst h2
      simp only [cutL, ih (m := m) (by omega)]
def Nrm (l : List UInt64) : Prop := cutL l = l
theorem Nrm_cutL (l : List UInt64) : Nrm (cutL l) := cutL_eq (lv_cutL l)
theorem lv_take_succ (l : List UInt64) (i : Nat) : lv (l.take (i + 1)) = lv (l.take i) + 18446744073709551616 ^ i * (l.getD i 0).toNat := by
  induction l generalizing i with
  | nil => simp [lv]
  | cons x l ih =>
    cases i with
    | zero => simp [lv]
    | succ i =>
      simp only [List.take_succ_cons, lv, ih i, List.getD_cons_succ, Nat.pow_succ]
      generalize 18446744073709551616 ^ i = p
      rw [Nat.mul_add, Nat.add_assoc]
      congr 2
      rw [Nat.mul_comm p 18446744073709551616, Nat.mul_assoc]
theorem lv_take_all {l : List UInt64} {n : Nat} (h : l.length ≤ n) : lv (l.take n) = lv l := by
  rw [List.take_of_length_le h]
theorem lv_lt (l : List UInt64) : lv l < 18446744073709551616 ^ l.length := by
  induction l with
  | nil => simp [lv]
  | cons x l ih =>
    have hx := x.toNat_lt
    simp only [lv, List.length_cons, Nat.pow_succ]
    have h2 : 18446744073709551616 * (lv l + 1) ≤ 18446744073709551616 * 18446744073709551616 ^ l.length := Nat.mul_le_mul_left _ ih
    rw [Nat.mul_comm (18446744073709551616 ^ l.length)]
    omega
theorem lv_take_lt (l : List UInt64) (i : Nat) : lv (l.take i) < 18446744073709551616 ^ i := by
  refine Nat.lt_of_lt_of_le (lv_lt _) (Nat.pow_le_pow_right (by decide) ?_)
  rw [List.length_take]; omega
theorem length_setL {α : Type} (l : List α) (i : Nat) (x : α) : (setL l i x).length = l.length := by
  induction l generalizing i with
  | nil => rfl
  | cons y l ih => cases i <;> simp [setL, ih]
theorem take_setL {α : Type} (l : List α) {i j : Nat} (x : α) (h : j ≤ i) : (setL l i x).take j = l.take j := by
  induction l generalizing i j with
  | nil => rfl
  | cons y l ih =>
    cases j with
    | zero => rfl
    | succ j => cases i with
      | zero => omega
      | succ i => simp [setL, ih (Nat.le_of_succ_le_succ h)]
theorem getD_setL {α : Type} (l : List α) (i j : Nat) (x d : α) : (setL l i x).getD j d = if j = i ∧ i < l.length then x else l.getD j d := by
  induction l generalizing i j with
  | nil => simp [setL]
  | cons y l ih =>
    cases i with
    | zero => cases j <;> simp [setL]
    | succ i => cases j with
      | zero => simp [setL]
      | succ j => simp only [setL, List.getD_cons_succ, ih, Nat.add_right_cancel_iff, List.length_cons, Nat.add_lt_add_iff_right]
theorem lv_take_setL (l : List UInt64) {i : Nat} (x : UInt64) (h : i < l.length) : lv ((setL l i x).take (i + 1)) = lv (l.take i) + 18446744073709551616 ^ i * x.toNat := by
  rw [lv_take_succ, take_setL l x (Nat.le_refl i), getD_setL, if_pos ⟨rfl, h⟩]
theorem getD_zero {l : List UInt64} {i : Nat} (h : l.length ≤ i) : l.getD i 0 = 0 := by
  rw [List.getD_eq_getElem?_getD, List.getElem?_eq_none h]; rfl
theorem cutL_take (a : List UInt64) (k : Nat) (hk : k ≤ a.length) (h0 : ∀ j, k ≤ j → a.getD j 0 = 0) (h1 : k = 0 ∨ a.getD (k - 1) 0 ≠ 0) : cutL a = a.take k := by
  induction a generalizing k with
  | nil => simp [cutL]
  | cons x l ih =>
    cases k with
    | zero =>
      have hx : x = 0 := by simpa using h0 0 (Nat.le_refl _)
      have hl : cutL l = [] := by
        rw [ih 0 (Nat.zero_le _) (fun j _ => by simpa using h0 (j + 1) (Nat.zero_le _)) (.inl rfl)]; rfl
      simp [cutL, hl, hx]
    | succ k =>
      have hl : cutL l = l.take k := by
        refine ih k (by simpa using hk) (fun j hj => by simpa using h0 (j + 1) (by omega)) ?_
        cases k with
        | zero => exact .inl rfl
        | succ k => right; rcases h1 with h1 | h1
                    · omega
                    · simpa using h1
      rw [List.take_succ_cons]
      cases k with
      | zero =>
        have hx : x ≠ 0 := by
          rcases h1 with h1 | h1
          · omega
          · simpa using h1
        simp only [cutL, hl, List.take_zero, if_neg hx]
      | succ k =>
        cases l with
        | nil => simp at hk
        | cons y l => simp only [cutL] at hl ⊢; rw [hl]; rfl
theorem wr_sub1 {k : Nat} (h : k < 9223372036854775807) : wr (((k + 1 : Nat) : Int) - 1) = (k : Int) := by
  rw [wr_id (by omega) (by omega)]; omega
theorem mxI_nat (a b : Nat) : mxI (a : Int) (b : Int) = ((max a b : Nat) : Int) := by
  unfold mxI
  rw [ltI_nat]
  by_cases h : a < b
  · rw [ltN_true h, cond_true]; congr 1; omega
  · rw [ltN_false h, cond_false]; congr 1; omega
theorem lv_split (b : List UInt64) (n : Nat) : lv b = lv (b.take n) + 18446744073709551616 ^ n * lv (b.drop n) := by
  induction n generalizing b with
  | zero => simp [lv]
  | succ n ih =>
    cases b with
    | nil => simp [lv]
    | cons x b =>
      have := ih b
      simp only [lv, List.take_succ_cons, List.drop_succ_cons, Nat.pow_succ]
      generalize 18446744073709551616 ^ n = p at this ⊢
      rw [Nat.mul_comm p 18446744073709551616, Nat.mul_assoc]
      generalize p * lv (List.drop n b) = q at this ⊢
      omega
theorem cutL_len (l : List UInt64) : (cutL l).length ≤ l.length := by
  induction l with
  | nil => exact Nat.le_refl _
  | cons x l ih =>
    simp only [cutL]
    split
    · split <;> simp
    · rename_i y r h
      rw [h] at ih
      simp only [List.length_cons] at ih ⊢
      omega
theorem Nrm_len {s : List UInt64} (h : Nrm s) {k : Nat} (hk : lv s < 18446744073709551616 ^ k) : s.length ≤ k := by
  have h1 := lv_split s k
  have hz : lv (s.drop k) = 0 := by
    cases hz : lv (s.drop k) with
    | zero => rfl
    | succ z =>
      rw [hz, Nat.mul_add] at h1
      generalize 18446744073709551616 ^ k = p at hk h1
      omega
  rw [hz] at h1
  have h2 : cutL (s.take k) = s := (cutL_eq (by omega)).trans h
  have h3 := cutL_len (s.take k)
  rw [h2, List.length_take] at h3
  omega
end Go.Proofs.Ytgimohchocjgcaa.V
