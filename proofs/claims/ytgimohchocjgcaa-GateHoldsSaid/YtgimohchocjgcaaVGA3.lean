import Derived.Test.YtgimohchocjgcaaVGA2
import Derived.KernelRfl
set_option linter.unusedVariables false
set_option linter.unusedSimpArgs false
namespace Go.Proofs.Ytgimohchocjgcaa.V
theorem gbegun : q105 2000 = some (true, ()) := by kernel_rfl
def Sc (x : Fr) : Prop := fv x < RR
def fmul (x y : Fr) : Fr := frN (fv x * fv y % RR)
def fadd (x y : Fr) : Fr := frN ((fv x + fv y) % RR)
def fsub (x y : Fr) : Fr := frN ((fv x + (RR - fv y)) % RR)
theorem sc_mod (n : Nat) : Sc (frN (n % RR)) := by unfold Sc; rw [fv_mod]; exact mod_lt_RR _
theorem sc_mul (x y : Fr) : Sc (fmul x y) := sc_mod _
theorem sc_add (x y : Fr) : Sc (fadd x y) := sc_mod _
theorem sc_sub (x y : Fr) : Sc (fsub x y) := sc_mod _
theorem sc_zero : Sc Fr.zero := by unfold Sc; decide +kernel
theorem sc_one : Sc ⟨1, 0, 0, 0⟩ := by unfold Sc; decide +kernel
theorem fv_mul (x y : Fr) : Cg (fv (fmul x y)) (fv x * fv y) := by unfold fmul; rw [fv_mod]; exact Cg.mod _
theorem fv_add (x y : Fr) : Cg (fv (fadd x y)) (fv x + fv y) := by unfold fadd; rw [fv_mod]; exact Cg.mod _
theorem fv_sub (x y : Fr) : Cg (fv (fsub x y)) (fv x + (RR - fv y)) := by unfold fsub; rw [fv_mod]; exact Cg.mod _
theorem fvz : fv Fr.zero = 0 := fv_zero
theorem sc_eq {x y : Fr} (hx : Sc x) (hy : Sc y) (h : Cg (fv x) (fv y)) : x = y := by
  unfold Cg at h
  unfold Sc at hx hy
  rw [Nat.mod_eq_of_lt hx, Nat.mod_eq_of_lt hy] at h
  exact fr_ext h
theorem mulF {N : Nat} (hN : 10 < N) {a b : Fr} (ha : Sc a) : q76 N a b = some (fmul a b, ()) := q76_eq' hN ha
theorem mulR {N : Nat} (hN : 10 < N) {a b : Fr} (hb : Sc b) : q94 N a b = some (fmul a b, ()) := q94_eq hN hb
theorem addF {N : Nat} (hN : 10 < N) {a b : Fr} (ha : Sc a) (hb : Sc b) : q80 N a b = some (fadd a b, ()) := q80_eq hN ha hb
theorem addR {N : Nat} (hN : 10 < N) {a b : Fr} (ha : Sc a) (hb : Sc b) : q81 N a b = some (fadd a b, ()) := q81_eq hN ha hb
theorem subF {N : Nat} (hN : 10 < N) {a b : Fr} (ha : Sc a) (hb : Sc b) : q82 N a b = some (fsub a b, ()) := q82_eq hN ha hb
theorem subR {N : Nat} (hN : 10 < N) {a b : Fr} (ha : Sc a) (hb : Sc b) : q83 N a b = some (fsub a b, ()) := q83_eq hN ha hb
def allSc : List Fr → Bool
  | [] => true
  | x :: l => decide (fv x < RR) && allSc l
theorem allSc_mem {l : List Fr} (h : allSc l = true) : ∀ x ∈ l, Sc x := by
  induction l with
  | nil => intro x hx; cases hx
  | cons y l ih =>
    simp only [allSc, Bool.and_eq_true, decide_eq_true_eq] at h
    intro x hx
    rcases List.mem_cons.1 hx with rfl | hx
    · exact h.1
    · exact ih h.2 x hx
theorem m90_eq (N : Nat) (hN : 10 < N) (l : List Fr) (hl : l.length < 9223372036854775808) (most : Int) : ∀ (k n i : Nat), i + k = l.length → k < n → m90_2 N n l most (i : Int) = some (allSc (l.drop i) && leI (l.length : Int) most, ()) := by
  intro k
  induction k with
  | zero =>
    intro n i hi hn
    obtain ⟨n, rfl⟩ : ∃ m, n = m + 1 := ⟨n - 1, by omega⟩
    rw [m90_2_succ]
    unfold c90_2
    rw [ltI_false (by omega), cond_false, List.drop_of_length_le (by omega)]
    rfl
  | succ k ih =>
    intro n i hi hn
    obtain ⟨n, rfl⟩ : ∃ m, n = m + 1 := ⟨n - 1, by omega⟩
    have hd : l.drop i = l.getD i Fr.zero :: l.drop (i + 1) := by
      rw [List.drop_eq_getElem_cons (by omega : i < l.length), List.getD_eq_getElem?_getD, List.getElem?_eq_getElem (by omega : i < l.length)]
      rfl
    rw [m90_2_succ]
    unfold c90_2
    rw [ltI_true (by omega), cond_true, leI_zero, Bool.and_self, mst2, Int.toNat_natCast, q69_eq hN]
    simp only [bsm]
    rw [hd, allSc]
    by_cases h : fv (l.getD i Fr.zero) < RR
    · rw [decide_eq_true h, Bool.not_true, cond_false, wr_add1 (by omega), Bool.true_and]
      exact ih n (i + 1) (by omega) (by omega)
    · rw [decide_eq_false h, Bool.not_false, cond_true, Bool.false_and, Bool.false_and]
theorem q90_eq {N : Nat} (hN : 10 < N) {l : List Fr} (hl : l.length < N) (hb : l.length < 9223372036854775808) (most : Int) : q90 N l most = some (allSc l && leI (l.length : Int) most, ()) :=
  m90_eq N hN l hb most l.length N 0 (by omega) hl
def vsum (q t : List Fr) : Nat → Nat → Fr → Fr
  | 0, _, s => s
  | k + 1, i, s => vsum q t k (i + 1) (fadd s (fmul (q.getD i Fr.zero) (t.getD i Fr.zero)))
theorem m106_eq (N : Nat) (hN : 10 < N) (q t : List Fr) (z : Fr) (hq : q.length = 8) (ht : t.length = 8) (hs : ∀ i, Sc (q.getD i Fr.zero)) : ∀ (k n i : Nat) (s : Fr), i + k = 8 → k < n → Sc s → m106_4 N n t (i : Int) q z s = some (vsum q t k i s, ()) := by
  intro k
  induction k with
  | zero =>
    intro n i s hi hn hss
    obtain ⟨n, rfl⟩ : ∃ m, n = m + 1 := ⟨n - 1, by omega⟩
    rw [m106_4_succ]
    unfold c106_4
    rw [ltI_false (by omega), cond_false]
    rfl
  | succ k ih =>
    intro n i s hi hn hss
    obtain ⟨n, rfl⟩ : ∃ m, n = m + 1 := ⟨n - 1, by omega⟩
    rw [m106_4_succ]
    unfold c106_4
    rw [ltI_true (show (i : Int) < 8 by omega), cond_true, leI_zero, ht, ltI_true (show (i : Int) < ((8 : Nat) : Int) by omega), Bool.and_self, Bool.and_self, mst2, mst2, Int.toNat_natCast, mulF hN (hs i)]
    simp only [bsm]
    rw [addF hN hss (sc_mul _ _), wr_add1 (by omega)]
    exact ih n (i + 1) _ (by omega) (by omega) (sc_add _ _)
def wl (a b c nx : Fr) : List Fr := [fmul a b, a, b, c, ⟨1, 0, 0, 0⟩, fsub (fmul a a) a, fsub (fmul (fmul (fmul a a) (fmul a a)) a) c, fsub (fadd a b) nx]
def gval (q : List Fr) (a b c nx : Fr) : Fr := vsum q (wl a b c nx) 8 0 Fr.zero
theorem q193_eq {N : Nat} (hN : 10 < N) {a : Fr} (ha : Sc a) : q193 N a = some (fmul (fmul (fmul a a) (fmul a a)) a, ()) := by
  unfold q193
  rw [mulF hN ha]
  simp only [bsm]
  rw [mulF hN (sc_mul _ _)]
  simp only [bsm]
  rw [mulF hN (sc_mul _ _)]
  simp only [bsm]
theorem q106_eq {N : Nat} (hN : 10 < N) {q : List Fr} {a b c nx : Fr} (hq : q.length = 8) (hs : ∀ i, Sc (q.getD i Fr.zero)) (ha : Sc a) (hb : Sc b) (hc : Sc c) (hn : Sc nx) : q106 N q a b c nx = some (gval q a b c nx, ()) := by
  unfold q106
  rw [hq, show Nat.beq 8 8 = true from rfl, mst2, mulF hN ha, q75_is, mulF hN ha]
  simp only [bsm]
  rw [subF hN (sc_mul _ _) ha, q193_eq hN ha]
  simp only [bsm]
  rw [subF hN (sc_mul _ _) hc, addF hN ha hb]
  simp only [bsm]
  rw [subF hN (sc_add _ _) hn]
  simp only [bsm]
  exact m106_eq N hN q (wl a b c nx) Fr.zero hq rfl hs 8 N 0 Fr.zero rfl (by omega) sc_zero
def nsum (q t : List Fr) : Nat → Nat → Nat
  | 0, _ => 0
  | k + 1, i => fv (q.getD i Fr.zero) * fv (t.getD i Fr.zero) + nsum q t k (i + 1)
theorem vsum_cg (q t : List Fr) : ∀ (k i : Nat) (s : Fr), Cg (fv (vsum q t k i s)) (fv s + nsum q t k i) := by
  intro k
  induction k with
  | zero => intro i s; exact Cg.rfl'
  | succ k ih =>
    intro i s
    refine (ih (i + 1) _).trans ?_
    refine ((fv_add _ _).add Cg.rfl').trans ?_
    refine ((Cg.rfl'.add (fv_mul _ _)).add Cg.rfl').trans (Cg.of_eq ?_)
    simp only [nsum]
    omega
theorem vsum_sc (q t : List Fr) : ∀ (k i : Nat) (s : Fr), Sc s → Sc (vsum q t k i s) := by
  intro k
  induction k with
  | zero => intro i s h; exact h
  | succ k ih => intro i s h; exact ih (i + 1) _ (sc_add _ _)
theorem gval_sc (q : List Fr) (a b c nx : Fr) : Sc (gval q a b c nx) := vsum_sc _ _ _ _ _ sc_zero
end Go.Proofs.Ytgimohchocjgcaa.V
