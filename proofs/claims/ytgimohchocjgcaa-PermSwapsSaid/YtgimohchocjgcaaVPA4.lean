import Derived.Test.YtgimohchocjgcaaVPA3
set_option linter.unusedVariables false
set_option linter.unusedSimpArgs false
namespace Go.Proofs.Ytgimohchocjgcaa.V
def updF (f : Nat → Fr) : Nat → Nat → List Fr → List Fr
  | 0, _, l => l
  | k + 1, i, l => updF f k (i + 1) (setL l i (fmul (l.getD i Fr.zero) (f i)))
theorem updF_len (f : Nat → Fr) (k i : Nat) (l : List Fr) : (updF f k i l).length = l.length := by
  induction k generalizing i l with
  | zero => rfl
  | succ k ih => simp only [updF]; rw [ih, length_setL]
theorem updF_get (f : Nat → Fr) (k i : Nat) (l : List Fr) (p : Nat) (h : i + k ≤ l.length) : (updF f k i l).getD p Fr.zero = if i ≤ p ∧ p < i + k then fmul (l.getD p Fr.zero) (f p) else l.getD p Fr.zero := by
  induction k generalizing i l with
  | zero => rw [if_neg (by omega)]; rfl
  | succ k ih =>
    simp only [updF]
    rw [ih (i + 1) _ (by rw [length_setL]; omega), getD_setL]
    by_cases e : p = i
    · rw [if_neg (by omega), if_pos ⟨e, by omega⟩, if_pos (by omega), e]
    · rw [if_neg (show ¬ (p = i ∧ i < l.length) from fun h => e h.1)]
      by_cases h2 : i + 1 ≤ p ∧ p < i + 1 + k
      · rw [if_pos h2, if_pos (by omega)]
      · rw [if_neg h2, if_neg (by omega)]
theorem setL_sc {l : List Fr} (h : ∀ p, Sc (l.getD p Fr.zero)) (i : Nat) {x : Fr} (hx : Sc x) : ∀ p, Sc ((setL l i x).getD p Fr.zero) := by
  intro p
  rw [getD_setL]
  split
  · exact hx
  · exact h p
theorem updF_sc (f : Nat → Fr) (k i : Nat) (l : List Fr) (h : ∀ p, Sc (l.getD p Fr.zero)) : ∀ p, Sc ((updF f k i l).getD p Fr.zero) := by
  induction k generalizing i l with
  | zero => exact h
  | succ k ih => exact ih _ _ (setL_sc h i (sc_mul _ _))
theorem cell_eq {j n i : Nat} (hj : j ≤ 2) (hn : n ≤ 64) (hi : i < n) : wr (wr ((j : Int) * (n : Int)) + (i : Int)) = ((j * n + i : Nat) : Int) := by
  have h : j * n ≤ 2 * 64 := Nat.mul_le_mul hj hn
  have e1 : (j : Int) * (n : Int) = ((j * n : Nat) : Int) := by rw [Int.natCast_mul]
  rw [e1]
  generalize j * n = q at h
  rw [wr_id (x := (q : Int)) (by omega) (by omega), wr_id (by omega) (by omega)]
  omega
section
variable (L nn : Nat) (w0 w1 w2 s0 s1 s2 : List Fr) (b g : Fr)
def ovF (j : Nat) (w : List Fr) (p : Nat) : Fr := tmF (w.getD p Fr.zero) (nm L (j * nn + p)) b g
def unF (w s : List Fr) (p : Nat) : Fr := tmF (w.getD p Fr.zero) (s.getD p Fr.zero) b g
variable {L nn w0 w1 w2 s0 s1 s2 b g}
theorem m91_16_0 {N : Nat} [Big N] {A : Int → Int → Int → List Fr → List Fr → List Fr → List Fr → List Fr → List Fr → Fr → Fr → List Fr → Fr → List Fr → List Fr → Option (List Fr × Fr × Int × Unit)} (h1 : 1 ≤ L) (h6 : L ≤ 6) (hnn : nn = 2 ^ L) (t : Int) (z : List Fr) (o5 : Fr) (hw : ∀ p, Sc (w0.getD p Fr.zero)) (hwl : w0.length = nn) (hsl : s0.length = nn) (hb : Sc b) (hg : Sc g) : ∀ (k n i : Nat) (ov un : List Fr), i + k = nn → k < n → ov.length = nn → un.length = nn → (∀ p, Sc (ov.getD p Fr.zero)) → (∀ p, Sc (un.getD p Fr.zero)) →
    m91_16 N A n (L : Int) (nn : Int) ((0 : Nat) : Int) t (nn : Int) (i : Int) w0 w1 w2 s0 s1 s2 b g z o5 ov un = A (L : Int) (nn : Int) (wr (t + 1)) w0 w1 w2 s0 s1 s2 b g z o5 (updF (ovF L nn b g 0 w0) k i ov) (updF (unF b g w0 s0) k i un) := by
  have hB : 2000 ≤ N := Big.h
  have hle : nn ≤ 64 := by rw [hnn]; exact two_pow_le h6
  have hN : 10 < N := by omega
  intro k
  induction k with
  | zero =>
    intro n i ov un hi hn ho hu _ _
    obtain ⟨n, rfl⟩ : ∃ m, n = m + 1 := ⟨n - 1, by omega⟩
    rw [m91_16_succ]
    unfold c91_16
    rw [ltI_false (by omega), cond_false]
    rfl
  | succ k ih =>
    intro n i ov un hi hn ho hu hos hus
    obtain ⟨n, rfl⟩ : ∃ m, n = m + 1 := ⟨n - 1, by omega⟩
    have hx : 0 * nn + i < 3 * 2 ^ L := by rw [← hnn]; omega
    rw [m91_16_succ]
    unfold c91_16
    rw [ltI_true (show (i : Int) < (nn : Int) by omega), cond_true, cell_eq (by omega) hle (by omega), q136_eq h1 h6 hx]
    simp only [bsm]
    rw [leI_zero, ltI_true (show (i : Int) < (ov.length : Int) by omega), ltI_true (show (i : Int) < (un.length : Int) by omega), Bool.and_self, mst2, show eqI ((0 : Nat) : Int) ((0 : Nat) : Int) = true from rfl, cond_true, mst2]
    rw [ltI_true (show (i : Int) < (w0.length : Int) by omega), ltI_true (show (i : Int) < (s0.length : Int) by omega)]
    simp only [Bool.and_self, mst2]
    rw [Int.toNat_natCast, q178_eq hN (hw i) hb hg, q178_eq hN (hw i) hb hg]
    simp only [bsm]
    rw [mulF hN (hos i), mulF hN (hus i)]
    simp only [bsm]
    rw [wr_add1 (by omega)]
    exact ih n (i + 1) _ _ (by omega) (by omega) (by rw [length_setL]; exact ho) (by rw [length_setL]; exact hu) (setL_sc hos i (sc_mul _ _)) (setL_sc hus i (sc_mul _ _))
theorem m91_16_1 {N : Nat} [Big N] {A : Int → Int → Int → List Fr → List Fr → List Fr → List Fr → List Fr → List Fr → Fr → Fr → List Fr → Fr → List Fr → List Fr → Option (List Fr × Fr × Int × Unit)} (h1 : 1 ≤ L) (h6 : L ≤ 6) (hnn : nn = 2 ^ L) (t : Int) (z : List Fr) (o5 : Fr) (hw : ∀ p, Sc (w1.getD p Fr.zero)) (hwl : w1.length = nn) (hsl : s1.length = nn) (hb : Sc b) (hg : Sc g) : ∀ (k n i : Nat) (ov un : List Fr), i + k = nn → k < n → ov.length = nn → un.length = nn → (∀ p, Sc (ov.getD p Fr.zero)) → (∀ p, Sc (un.getD p Fr.zero)) →
    m91_16 N A n (L : Int) (nn : Int) ((1 : Nat) : Int) t (nn : Int) (i : Int) w0 w1 w2 s0 s1 s2 b g z o5 ov un = A (L : Int) (nn : Int) (wr (t + 1)) w0 w1 w2 s0 s1 s2 b g z o5 (updF (ovF L nn b g 1 w1) k i ov) (updF (unF b g w1 s1) k i un) := by
  have hB : 2000 ≤ N := Big.h
  have hle : nn ≤ 64 := by rw [hnn]; exact two_pow_le h6
  have hN : 10 < N := by omega
  intro k
  induction k with
  | zero =>
    intro n i ov un hi hn ho hu _ _
    obtain ⟨n, rfl⟩ : ∃ m, n = m + 1 := ⟨n - 1, by omega⟩
    rw [m91_16_succ]
    unfold c91_16
    rw [ltI_false (by omega), cond_false]
    rfl
  | succ k ih =>
    intro n i ov un hi hn ho hu hos hus
    obtain ⟨n, rfl⟩ : ∃ m, n = m + 1 := ⟨n - 1, by omega⟩
    have hx : 1 * nn + i < 3 * 2 ^ L := by rw [← hnn]; omega
    rw [m91_16_succ]
    unfold c91_16
    rw [ltI_true (show (i : Int) < (nn : Int) by omega), cond_true, cell_eq (by omega) hle (by omega), q136_eq h1 h6 hx]
    simp only [bsm]
    rw [leI_zero, ltI_true (show (i : Int) < (ov.length : Int) by omega), ltI_true (show (i : Int) < (un.length : Int) by omega), Bool.and_self, mst2, show eqI ((1 : Nat) : Int) ((0 : Nat) : Int) = false from rfl, cond_false, show eqI ((1 : Nat) : Int) (((0 : Nat) + (1 : Nat) : Nat) : Int) = true from rfl, cond_true, mst2]
    rw [ltI_true (show (i : Int) < (w1.length : Int) by omega), ltI_true (show (i : Int) < (s1.length : Int) by omega)]
    simp only [Bool.and_self, mst2]
    rw [Int.toNat_natCast, q178_eq hN (hw i) hb hg, q178_eq hN (hw i) hb hg]
    simp only [bsm]
    rw [mulF hN (hos i), mulF hN (hus i)]
    simp only [bsm]
    rw [wr_add1 (by omega)]
    exact ih n (i + 1) _ _ (by omega) (by omega) (by rw [length_setL]; exact ho) (by rw [length_setL]; exact hu) (setL_sc hos i (sc_mul _ _)) (setL_sc hus i (sc_mul _ _))
theorem m91_16_2 {N : Nat} [Big N] {A : Int → Int → Int → List Fr → List Fr → List Fr → List Fr → List Fr → List Fr → Fr → Fr → List Fr → Fr → List Fr → List Fr → Option (List Fr × Fr × Int × Unit)} (h1 : 1 ≤ L) (h6 : L ≤ 6) (hnn : nn = 2 ^ L) (t : Int) (z : List Fr) (o5 : Fr) (hw : ∀ p, Sc (w2.getD p Fr.zero)) (hwl : w2.length = nn) (hsl : s2.length = nn) (hb : Sc b) (hg : Sc g) : ∀ (k n i : Nat) (ov un : List Fr), i + k = nn → k < n → ov.length = nn → un.length = nn → (∀ p, Sc (ov.getD p Fr.zero)) → (∀ p, Sc (un.getD p Fr.zero)) →
    m91_16 N A n (L : Int) (nn : Int) ((2 : Nat) : Int) t (nn : Int) (i : Int) w0 w1 w2 s0 s1 s2 b g z o5 ov un = A (L : Int) (nn : Int) (wr (t + 1)) w0 w1 w2 s0 s1 s2 b g z o5 (updF (ovF L nn b g 2 w2) k i ov) (updF (unF b g w2 s2) k i un) := by
  have hB : 2000 ≤ N := Big.h
  have hle : nn ≤ 64 := by rw [hnn]; exact two_pow_le h6
  have hN : 10 < N := by omega
  intro k
  induction k with
  | zero =>
    intro n i ov un hi hn ho hu _ _
    obtain ⟨n, rfl⟩ : ∃ m, n = m + 1 := ⟨n - 1, by omega⟩
    rw [m91_16_succ]
    unfold c91_16
    rw [ltI_false (by omega), cond_false]
    rfl
  | succ k ih =>
    intro n i ov un hi hn ho hu hos hus
    obtain ⟨n, rfl⟩ : ∃ m, n = m + 1 := ⟨n - 1, by omega⟩
    have hx : 2 * nn + i < 3 * 2 ^ L := by rw [← hnn]; omega
    rw [m91_16_succ]
    unfold c91_16
    rw [ltI_true (show (i : Int) < (nn : Int) by omega), cond_true, cell_eq (by omega) hle (by omega), q136_eq h1 h6 hx]
    simp only [bsm]
    rw [leI_zero, ltI_true (show (i : Int) < (ov.length : Int) by omega), ltI_true (show (i : Int) < (un.length : Int) by omega), Bool.and_self, mst2, show eqI ((2 : Nat) : Int) ((0 : Nat) : Int) = false from rfl, cond_false, show eqI ((2 : Nat) : Int) (((0 : Nat) + (1 : Nat) : Nat) : Int) = false from rfl, cond_false, show eqI ((2 : Nat) : Int) (((0 : Nat) + (1 : Nat) + (1 : Nat) : Nat) : Int) = true from rfl, mst2, mst2]
    rw [ltI_true (show (i : Int) < (w2.length : Int) by omega), ltI_true (show (i : Int) < (s2.length : Int) by omega)]
    simp only [Bool.and_self, mst2]
    rw [Int.toNat_natCast, q178_eq hN (hw i) hb hg, q178_eq hN (hw i) hb hg]
    simp only [bsm]
    rw [mulF hN (hos i), mulF hN (hus i)]
    simp only [bsm]
    rw [wr_add1 (by omega)]
    exact ih n (i + 1) _ _ (by omega) (by omega) (by rw [length_setL]; exact ho) (by rw [length_setL]; exact hu) (setL_sc hos i (sc_mul _ _)) (setL_sc hus i (sc_mul _ _))
end
end Go.Proofs.Ytgimohchocjgcaa.V
