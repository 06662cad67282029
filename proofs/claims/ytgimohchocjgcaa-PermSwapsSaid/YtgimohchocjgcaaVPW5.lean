import Derived.Test.YtgimohchocjgcaaVPW4
import Derived.KernelRfl
set_option linter.unusedVariables false
set_option linter.unusedSimpArgs false
namespace Go.Proofs.Ytgimohchocjgcaa.V
def Closed (z : List Fr) (l : Fr) (e : Int) : Prop := e = 15 ∨ (e = 0 ∧ l = ⟨1, 0, 0, 0⟩ ∧ z.length = 4)
theorem m21_23_eq {e f : Int} {z u : List Fr} {l d : Fr} (h1 : Closed z l e) (h2 : Closed u d f) (hu : ∀ p, p < u.length → u.getD p Fr.zero = ⟨1, 0, 0, 0⟩) (hul : u.length ≤ 4) : ∀ (k n i : Nat), i + k = u.length → k < n → m21_23 2000 n e f true (i : Int) z l u d = some (true, ()) := by
  intro k
  induction k with
  | zero =>
    intro n i hi hn
    obtain ⟨n, rfl⟩ : ∃ m, n = m + 1 := ⟨n - 1, by omega⟩
    rw [m21_23_succ]
    unfold c21_23
    rw [ltI_false (by omega), cond_false]
    have hf : (cond ((eqI f (15 : Int))) (some ((true, ()))) (cond ((eqI f (0 : Int))) (cond ((eqF d (Fr.mk (1 : UInt64) 0 0 0))) (some ((true, ()))) (some ((false, ())))) (some ((false, ())))) : Option (Bool × Unit)) = some (true, ()) := by
      rcases h2 with rfl | ⟨rfl, rfl, _⟩
      · rfl
      · rw [eqF_self]; rfl
    rcases h1 with rfl | ⟨rfl, rfl, hz⟩
    · rw [show eqI (15 : Int) 15 = true from rfl, cond_true]
      exact hf
    · rw [show eqI (0 : Int) 15 = false from rfl, cond_false, show eqI (0 : Int) 0 = true from rfl, cond_true, eqF_self, cond_true, hz, show eqI ((4 : Nat) : Int) 4 = true from rfl, cond_true]
      exact hf
  | succ k ih =>
    intro n i hi hn
    obtain ⟨n, rfl⟩ : ∃ m, n = m + 1 := ⟨n - 1, by omega⟩
    rw [m21_23_succ]
    unfold c21_23
    rw [ltI_true (by omega), cond_true, cond_true, leI_zero, show (true && true) = true from rfl, mst2, Int.toNat_natCast, hu i (by omega), eqF_self, wr_add1 (by omega)]
    exact ih n (i + 1) (by omega) (by omega)
theorem cwl_sc {w : List Fr} (hw : ∀ p, Sc (w.getD p Fr.zero)) (j p : Nat) : Sc ((cwl w j).getD p Fr.zero) := by
  unfold cwl
  match p with
  | 0 => exact hw _
  | 1 => exact hw _
  | 2 => exact hw _
  | 3 => exact hw _
  | p + 4 => exact sc_zero
theorem lens4 (w : List Fr) (σ : Nat → Nat) : Lens 4 (cwl w 0) (cwl w 1) (cwl w 2) (cnl σ 0) (cnl σ 1) (cnl σ 2) := ⟨⟨rfl, rfl⟩, ⟨rfl, rfl⟩, ⟨rfl, rfl⟩⟩
theorem q91_sw {w : List Fr} {b g : Fr} (hw : ∀ p, Sc (w.getD p Fr.zero)) (hb : Sc b) (hg : Sc g) {x y : Nat} (hx : x < 12) (hy : y < 12) (hxy : w.getD x Fr.zero = w.getD y Fr.zero) :
    ∃ z l e, q91 2000 (2 : Int) (cwl w 0) (cwl w 1) (cwl w 2) (cnl (sw x y) 0) (cnl (sw x y) 1) (cnl (sw x y) 2) b g = some (z, l, e, ()) ∧ Closed z l e := by
  rcases q91_eq (N := 2000) (L := 2) (nn := 4) (w0 := cwl w 0) (w1 := cwl w 1) (w2 := cwl w 2) (s0 := cnl (sw x y) 0) (s1 := cnl (sw x y) 1) (s2 := cnl (sw x y) 2) (by omega) (by omega) rfl (cwl_sc hw 0) (cwl_sc hw 1) (cwl_sc hw 2) hb hg with ⟨h, _⟩ | ⟨_, _, h⟩ | ⟨_, _, ov, ui, _, _, h1, h2, h⟩
  · exact absurd (lens4 w (sw x y)) h
  · exact ⟨_, _, _, h, .inl rfl⟩
  · refine ⟨_, _, _, h, .inr ⟨rfl, ?_, by simp⟩⟩
    exact rz4 (A := rowO 2 4 (cwl w 0) (cwl w 1) (cwl w 2) b g) (B := rowU (cwl w 0) (cwl w 1) (cwl w 2) (cnl (sw x y) 0) (cnl (sw x y) 1) (cnl (sw x y) 2) b g) h1 h2 (rows_cg w b g hx hy hxy)
theorem q91_own {w : List Fr} {b g : Fr} (hw : ∀ p, Sc (w.getD p Fr.zero)) (hb : Sc b) (hg : Sc g) :
    ∃ z l e, q91 2000 (2 : Int) (cwl w 0) (cwl w 1) (cwl w 2) (cnl (fun k => k) 0) (cnl (fun k => k) 1) (cnl (fun k => k) 2) b g = some (z, l, e, ()) ∧ Closed z l e ∧ z.length ≤ 4 ∧ ∀ p, p < z.length → z.getD p Fr.zero = ⟨1, 0, 0, 0⟩ := by
  rcases q91_eq (N := 2000) (L := 2) (nn := 4) (w0 := cwl w 0) (w1 := cwl w 1) (w2 := cwl w 2) (s0 := cnl (fun k => k) 0) (s1 := cnl (fun k => k) 1) (s2 := cnl (fun k => k) 2) (by omega) (by omega) rfl (cwl_sc hw 0) (cwl_sc hw 1) (cwl_sc hw 2) hb hg with ⟨h, _⟩ | ⟨_, _, h⟩ | ⟨_, _, ov, ui, _, _, h1, h2, h⟩
  · exact absurd (lens4 w (fun k => k)) h
  · exact ⟨_, _, _, h, .inl rfl, by simp, fun p hp => by simp at hp⟩
  · have hone : ∀ i, i ≤ 4 → rz ov ui i = ⟨1, 0, 0, 0⟩ := rz_one fun p hp => by
      rw [h1 p hp, row_same w b g hp]
      exact one_inv (h2 p hp)
    refine ⟨_, _, _, h, .inr ⟨rfl, hone 4 (by omega), by simp⟩, by simp, fun p hp => ?_⟩
    simp only [List.length_map, List.length_range] at hp
    rw [List.getD_eq_getElem?_getD, List.getElem?_map, List.getElem?_range hp]
    exact hone p (by omega)
theorem setL_get (l : List Fr) (i : Nat) (a : Fr) (p : Nat) : (setL l i a).getD p Fr.zero = if p = i ∧ i < l.length then a else l.getD p Fr.zero := by
  induction l generalizing i p with
  | nil => simp [setL]
  | cons x l ih =>
    cases i with
    | zero => cases p <;> simp [setL]
    | succ i =>
      cases p with
      | zero => simp [setL]
      | succ p =>
        have := ih i p
        simp only [List.getD_eq_getElem?_getD] at this
        simp [setL, this]
theorem perm_swaps_plain (w : List Fr) (a b : UInt8) (beta gamma : Fr) (hw : w.length = 12) : q21 2000 w a b beta gamma = some (true, ()) := by
  unfold q21
  rw [hw, show Nat.beq 12 12 = true from rfl, mst2, pbegun]
  simp only [bsm, Bool.not_true, cond_false]
  rw [show List.take (Int.toNat ((↑(12 : Nat) : Int) - (0 : Int))) w = w from List.take_of_length_le (by rw [hw]; decide), q90_eq (N := 2000) (l := w) (by omega) (by omega) (by omega)]
  simp only [bsm]
  cases ha : allSc w with
  | false => rfl
  | true =>
    rw [show (true && leI (w.length : Int) 12) = true from by rw [hw]; rfl, Bool.not_true, cond_false, q69_eq (by omega)]
    simp only [bsm]
    by_cases hb : fv beta < RR
    case neg => rw [decide_eq_false hb]; rfl
    rw [decide_eq_true hb, Bool.not_true, cond_false, q69_eq (by omega)]
    simp only [bsm]
    by_cases hg : fv gamma < RR
    case neg => rw [decide_eq_false hg]; rfl
    rw [decide_eq_true hg, Bool.not_true, cond_false]
    have hx : UInt8.toNat (a % 12) < 12 := by rw [UInt8.toNat_mod]; exact Nat.mod_lt _ (by decide)
    have hy : UInt8.toNat (b % 12) < 12 := by rw [UInt8.toNat_mod]; exact Nat.mod_lt _ (by decide)
    generalize UInt8.toNat (a % 12) = x at hx ⊢
    generalize UInt8.toNat (b % 12) = y at hy ⊢
    rw [leI_zero, leI_zero, ltI_true (show (x : Int) < ((12 : Nat) : Int) by omega), ltI_true (show (y : Int) < ((12 : Nat) : Int) by omega), show (true && true) = true from rfl, mst2, mst2, Int.toNat_natCast, Int.toNat_natCast]
    have hws : ∀ p, Sc (w.getD p Fr.zero) := allSc_get ha
    generalize hw2 : setL w y (Fr.mk (Fr.a0 (w.getD x Fr.zero)) (Fr.a1 (w.getD x Fr.zero)) (Fr.a2 (w.getD x Fr.zero)) (Fr.a3 (w.getD x Fr.zero))) = v
    have hv : v = setL w y (w.getD x Fr.zero) := hw2.symm
    have hvs : ∀ p, Sc (v.getD p Fr.zero) := fun p => by
      rw [hv, setL_get]
      split
      · exact hws _
      · exact hws _
    have hvxy : v.getD x Fr.zero = v.getD y Fr.zero := by
      rw [hv, setL_get, setL_get, if_pos (c := y = y ∧ y < w.length) ⟨rfl, by omega⟩]
      split <;> rfl
    rw [sw_run hx hy]
    obtain ⟨z, l, e, h1, h2⟩ := q91_sw hvs hb hg hx hy hvxy
    obtain ⟨u, d, f, h3, h4, h5, h6⟩ := q91_own (w := v) hvs hb hg
    refine (m21_9_succ (N := 2000) (n := 1987) ..).trans ?_
    unfold c21_9
    rw [ltI_false (by omega), cond_false]
    refine (congrArg (fun o => Option.bind o _) h1).trans ?_
    simp only [bsm]
    refine (congrArg (fun o => Option.bind o _) h3).trans ?_
    simp only [bsm]
    exact m21_23_eq h2 h4 h6 h5 u.length 2000 0 (by omega) (by omega)
end Go.Proofs.Ytgimohchocjgcaa.V
