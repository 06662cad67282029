import Derived.Test.YtgimohchocjgcaaVGA2
import Derived.KernelRfl
set_option linter.unusedVariables false
set_option linter.unusedSimpArgs false
namespace Go.Proofs.Ytgimohchocjgcaa.V
def Sc (x : Fr) : Prop := fv x < RR
def fmul (x y : Fr) : Fr := frN (fv x * fv y % RR)
def fadd (x y : Fr) : Fr := frN ((fv x + fv y) % RR)
theorem sc_mod (n : Nat) : Sc (frN (n % RR)) := by unfold Sc; rw [fv_mod]; exact mod_lt_RR _
theorem sc_mul (x y : Fr) : Sc (fmul x y) := sc_mod _
theorem sc_add (x y : Fr) : Sc (fadd x y) := sc_mod _
theorem sc_zero : Sc Fr.zero := by unfold Sc; decide +kernel
theorem sc_one : Sc ⟨1, 0, 0, 0⟩ := by unfold Sc; decide +kernel
theorem fv_mul (x y : Fr) : Cg (fv (fmul x y)) (fv x * fv y) := by unfold fmul; rw [fv_mod]; exact Cg.mod _
theorem sc_eq {x y : Fr} (hx : Sc x) (hy : Sc y) (h : Cg (fv x) (fv y)) : x = y := by
  unfold Cg at h
  unfold Sc at hx hy
  rw [Nat.mod_eq_of_lt hx, Nat.mod_eq_of_lt hy] at h
  exact fr_ext h
theorem mulF {N : Nat} (hN : 10 < N) {a b : Fr} (ha : Sc a) : q76 N a b = some (fmul a b, ()) := q76_eq' hN ha
theorem mulR {N : Nat} (hN : 10 < N) {a b : Fr} (hb : Sc b) : q94 N a b = some (fmul a b, ()) := q94_eq hN hb
theorem addF {N : Nat} (hN : 10 < N) {a b : Fr} (ha : Sc a) (hb : Sc b) : q80 N a b = some (fadd a b, ()) := q80_eq hN ha hb
theorem q190_eq {N : Nat} (hN : 10 < N) {a b : Fr} (hb : Sc b) : q190 N a b = some (fmul a b, ()) := by
  unfold q190
  rw [mulR hN hb]
  simp only [bsm]
def allSc : List Fr → Bool
  | [] => true
  | x :: l => decide (fv x < RR) && allSc l
theorem allSc_mem {l : List Fr} (h : allSc l = true) : ∀ x ∈ l, Sc x := by
  induction l with
  | nil => intro x hx; cases hx
  | cons y l ih =>
    simp only [allSc, Bool.and_eq_true, decide_eq_true_eq] at h
    intro x hx
    rcases List.mem_cons.1 hx with rfl | hx
    · exact h.1
    · exact ih h.2 x hx
theorem allSc_get {l : List Fr} (h : allSc l = true) (i : Nat) : Sc (l.getD i Fr.zero) := by
  rw [List.getD_eq_getElem?_getD]
  cases hi : l[i]? with
  | none => exact sc_zero
  | some x => exact allSc_mem h x (List.mem_of_getElem? hi)
theorem m90_eq (N : Nat) (hN : 10 < N) (l : List Fr) (hl : l.length < 9223372036854775808) (most : Int) : ∀ (k n i : Nat), i + k = l.length → k < n → m90_2 N n l most (i : Int) = some (allSc (l.drop i) && leI (l.length : Int) most, ()) := by
  intro k
  induction k with
  | zero =>
    intro n i hi hn
    obtain ⟨n, rfl⟩ : ∃ m, n = m + 1 := ⟨n - 1, by omega⟩
    rw [m90_2_succ]
    unfold c90_2
    rw [ltI_false (by omega), cond_false, List.drop_of_length_le (by omega)]
    rfl
  | succ k ih =>
    intro n i hi hn
    obtain ⟨n, rfl⟩ : ∃ m, n = m + 1 := ⟨n - 1, by omega⟩
    have hd : l.drop i = l.getD i Fr.zero :: l.drop (i + 1) := by
      rw [List.drop_eq_getElem_cons (by omega : i < l.length), List.getD_eq_getElem?_getD, List.getElem?_eq_getElem (by omega : i < l.length)]
      rfl
    rw [m90_2_succ]
    unfold c90_2
    rw [ltI_true (by omega), cond_true, leI_zero, Bool.and_self, mst2, Int.toNat_natCast, q69_eq hN]
    simp only [bsm]
    rw [hd, allSc]
    by_cases h : fv (l.getD i Fr.zero) < RR
    · rw [decide_eq_true h, Bool.not_true, cond_false, wr_add1 (by omega), Bool.true_and]
      exact ih n (i + 1) (by omega) (by omega)
    · rw [decide_eq_false h, Bool.not_false, cond_true, Bool.false_and, Bool.false_and]
theorem q90_eq {N : Nat} (hN : 10 < N) {l : List Fr} (hl : l.length < N) (hb : l.length < 9223372036854775808) (most : Int) : q90 N l most = some (allSc l && leI (l.length : Int) most, ()) :=
  m90_eq N hN l hb most l.length N 0 (by omega) hl
end Go.Proofs.Ytgimohchocjgcaa.V
