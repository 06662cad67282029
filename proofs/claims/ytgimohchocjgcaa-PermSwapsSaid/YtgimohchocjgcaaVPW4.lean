import Derived.Test.YtgimohchocjgcaaVPW3
import Derived.KernelRfl
set_option linter.unusedVariables false
set_option linter.unusedSimpArgs false
namespace Go.Proofs.Ytgimohchocjgcaa.V
def prd : List Nat → Nat
  | [] => 1
  | x :: l => x * prd l
theorem prd_perm {l m : List Nat} (h : l.Perm m) : prd l = prd m := by
  induction h with
  | nil => rfl
  | cons x _ ih => simp only [prd, ih]
  | swap x y l => simp only [prd]; rw [← Nat.mul_assoc, ← Nat.mul_assoc, Nat.mul_comm y x]
  | trans _ _ h1 h2 => exact h1.trans h2
theorem sw_perm : ∀ x y : _root_.Fin 12, ((List.range 12).map (sw x.val y.val)).isPerm (List.range 12) = true := by decide +kernel
theorem prd_sw (T : Nat → Nat) {x y : Nat} (hx : x < 12) (hy : y < 12) : prd ((List.range 12).map fun k => T (sw x y k)) = prd ((List.range 12).map T) := by
  have h := (List.isPerm_iff.1 (sw_perm ⟨x, hx⟩ ⟨y, hy⟩)).map T
  rw [List.map_map] at h
  exact prd_perm h
theorem prd12 (T : Nat → Nat) : prd ((List.range 12).map T) = (T 0 * T 4 * T 8) * (T 1 * T 5 * T 9) * (T 2 * T 6 * T 10) * (T 3 * T 7 * T 11) := by
  have : prd ((List.range 12).map T) = T 0 * (T 1 * (T 2 * (T 3 * (T 4 * (T 5 * (T 6 * (T 7 * (T 8 * (T 9 * (T 10 * (T 11 * 1))))))))))) := rfl
  rw [this, Nat.mul_one]
  ac_rfl
theorem rz_one {ov ui : List Fr} {nn : Nat} (h : ∀ p, p < nn → fmul ⟨1, 0, 0, 0⟩ (fmul (ov.getD p Fr.zero) (ui.getD p Fr.zero)) = ⟨1, 0, 0, 0⟩) : ∀ i, i ≤ nn → rz ov ui i = ⟨1, 0, 0, 0⟩
  | 0, _ => rfl
  | i + 1, hi => by
    show fmul (rz ov ui i) (fmul (ov.getD i Fr.zero) (ui.getD i Fr.zero)) = _
    rw [rz_one h i (by omega)]
    exact h i (by omega)
theorem rz_cg (ov ui : List Fr) (i : Nat) : Cg (fv (rz ov ui (i + 1))) (fv (rz ov ui i) * (fv (ov.getD i Fr.zero) * fv (ui.getD i Fr.zero))) :=
  (fv_mul _ _).trans (Cg.mul Cg.rfl' (fv_mul _ _))
theorem rz4 {ov ui : List Fr} {A B : Nat → Fr} (hA : ∀ p, p < 4 → ov.getD p Fr.zero = A p) (hB : ∀ p, p < 4 → IsInv (ui.getD p Fr.zero) (B p)) (hAB : Cg (fv (A 0) * fv (A 1) * fv (A 2) * fv (A 3)) (fv (B 0) * fv (B 1) * fv (B 2) * fv (B 3))) : rz ov ui 4 = ⟨1, 0, 0, 0⟩ := by
  refine sc_eq (rz_sc _ _ _) sc_one ?_
  rw [fv_k1]
  have c0 : Cg (fv (rz ov ui 1)) (1 * (fv (A 0) * fv (ui.getD 0 Fr.zero))) := by
    have := rz_cg ov ui 0
    rw [hA 0 (by omega), show fv (rz ov ui 0) = 1 from fv_k1] at this
    exact this
  have c1 : Cg (fv (rz ov ui 2)) (1 * (fv (A 0) * fv (ui.getD 0 Fr.zero)) * (fv (A 1) * fv (ui.getD 1 Fr.zero))) := by
    have := rz_cg ov ui 1
    rw [hA 1 (by omega)] at this
    exact this.trans (Cg.mul c0 Cg.rfl')
  have c2 : Cg (fv (rz ov ui 3)) (1 * (fv (A 0) * fv (ui.getD 0 Fr.zero)) * (fv (A 1) * fv (ui.getD 1 Fr.zero)) * (fv (A 2) * fv (ui.getD 2 Fr.zero))) := by
    have := rz_cg ov ui 2
    rw [hA 2 (by omega)] at this
    exact this.trans (Cg.mul c1 Cg.rfl')
  have c3 : Cg (fv (rz ov ui 4)) (1 * (fv (A 0) * fv (ui.getD 0 Fr.zero)) * (fv (A 1) * fv (ui.getD 1 Fr.zero)) * (fv (A 2) * fv (ui.getD 2 Fr.zero)) * (fv (A 3) * fv (ui.getD 3 Fr.zero))) := by
    have := rz_cg ov ui 3
    rw [hA 3 (by omega)] at this
    exact this.trans (Cg.mul c2 Cg.rfl')
  have d0 := (hB 0 (by omega)).2
  have d1 := (hB 1 (by omega)).2
  have d2 := (hB 2 (by omega)).2
  have d3 := (hB 3 (by omega)).2
  generalize fv (ui.getD 0 Fr.zero) = u0 at *
  generalize fv (ui.getD 1 Fr.zero) = u1 at *
  generalize fv (ui.getD 2 Fr.zero) = u2 at *
  generalize fv (ui.getD 3 Fr.zero) = u3 at *
  generalize fv (A 0) = a0 at *
  generalize fv (A 1) = a1 at *
  generalize fv (A 2) = a2 at *
  generalize fv (A 3) = a3 at *
  generalize fv (B 0) = b0 at *
  generalize fv (B 1) = b1 at *
  generalize fv (B 2) = b2 at *
  generalize fv (B 3) = b3 at *
  refine c3.trans ?_
  have e1 : 1 * (a0 * u0) * (a1 * u1) * (a2 * u2) * (a3 * u3) = (a0 * a1 * a2 * a3) * (u0 * u1 * u2 * u3) := by rw [Nat.one_mul]; ac_rfl
  have e2 : (b0 * b1 * b2 * b3) * (u0 * u1 * u2 * u3) = (u0 * b0) * (u1 * b1) * (u2 * b2) * (u3 * b3) := by ac_rfl
  rw [e1]
  refine (Cg.mul hAB Cg.rfl').trans ?_
  rw [e2]
  exact ((d0.mul d1).mul d2).mul d3
section
variable (w : List Fr) (b g : Fr) (σ : Nat → Nat)
def cwl (j : Nat) : List Fr := [w.getD (4 * j) Fr.zero, w.getD (4 * j + 1) Fr.zero, w.getD (4 * j + 2) Fr.zero, w.getD (4 * j + 3) Fr.zero]
def cnl (j : Nat) : List Fr := [nm 2 (σ (4 * j)), nm 2 (σ (4 * j + 1)), nm 2 (σ (4 * j + 2)), nm 2 (σ (4 * j + 3))]
def tk (k : Nat) : Fr := tmF (w.getD k Fr.zero) (nm 2 (σ k)) b g
theorem un_is (j : Nat) {p : Nat} (hp : p < 4) : unF b g (cwl w j) (cnl σ j) p = tk w b g σ (4 * j + p) := by
  have : p = 0 ∨ p = 1 ∨ p = 2 ∨ p = 3 := by omega
  rcases this with rfl | rfl | rfl | rfl <;> rfl
theorem ov_is (j : Nat) {p : Nat} (hp : p < 4) : ovF 2 4 b g j (cwl w j) p = tk w b g (fun k => k) (4 * j + p) := by
  have e : j * 4 + p = 4 * j + p := by omega
  have : p = 0 ∨ p = 1 ∨ p = 2 ∨ p = 3 := by omega
  unfold ovF tk
  rw [e]
  rcases this with rfl | rfl | rfl | rfl <;> rfl
theorem rowU_cg {p : Nat} (hp : p < 4) : Cg (fv (rowU (cwl w 0) (cwl w 1) (cwl w 2) (cnl σ 0) (cnl σ 1) (cnl σ 2) b g p)) (fv (tk w b g σ p) * fv (tk w b g σ (4 + p)) * fv (tk w b g σ (8 + p))) := by
  unfold rowU
  rw [un_is w b g σ 0 hp, un_is w b g σ 1 hp, un_is w b g σ 2 hp, show 4 * 0 + p = p by omega]
  exact cg3 _ _ _
theorem rowO_cg {p : Nat} (hp : p < 4) : Cg (fv (rowO 2 4 (cwl w 0) (cwl w 1) (cwl w 2) b g p)) (fv (tk w b g (fun k => k) p) * fv (tk w b g (fun k => k) (4 + p)) * fv (tk w b g (fun k => k) (8 + p))) := by
  unfold rowO
  rw [ov_is w b g 0 hp, ov_is w b g 1 hp, ov_is w b g 2 hp, show 4 * 0 + p = p by omega]
  exact cg3 _ _ _
theorem row_same {p : Nat} (hp : p < 4) : rowO 2 4 (cwl w 0) (cwl w 1) (cwl w 2) b g p = rowU (cwl w 0) (cwl w 1) (cwl w 2) (cnl (fun k => k) 0) (cnl (fun k => k) 1) (cnl (fun k => k) 2) b g p := by
  unfold rowO rowU
  rw [ov_is w b g 0 hp, ov_is w b g 1 hp, ov_is w b g 2 hp, un_is w b g _ 0 hp, un_is w b g _ 1 hp, un_is w b g _ 2 hp]
theorem rows_cg {x y : Nat} (hx : x < 12) (hy : y < 12) (hw : w.getD x Fr.zero = w.getD y Fr.zero) :
    Cg (fv (rowO 2 4 (cwl w 0) (cwl w 1) (cwl w 2) b g 0) * fv (rowO 2 4 (cwl w 0) (cwl w 1) (cwl w 2) b g 1) * fv (rowO 2 4 (cwl w 0) (cwl w 1) (cwl w 2) b g 2) * fv (rowO 2 4 (cwl w 0) (cwl w 1) (cwl w 2) b g 3))
      (fv (rowU (cwl w 0) (cwl w 1) (cwl w 2) (cnl (sw x y) 0) (cnl (sw x y) 1) (cnl (sw x y) 2) b g 0) * fv (rowU (cwl w 0) (cwl w 1) (cwl w 2) (cnl (sw x y) 0) (cnl (sw x y) 1) (cnl (sw x y) 2) b g 1) * fv (rowU (cwl w 0) (cwl w 1) (cwl w 2) (cnl (sw x y) 0) (cnl (sw x y) 1) (cnl (sw x y) 2) b g 2) * fv (rowU (cwl w 0) (cwl w 1) (cwl w 2) (cnl (sw x y) 0) (cnl (sw x y) 1) (cnl (sw x y) 2) b g 3)) := by
  have hT : ∀ k, tk w b g (sw x y) k = tk w b g (fun k => k) (sw x y k) := fun k => by
    have : w.getD k Fr.zero = w.getD (sw x y k) Fr.zero := by
      unfold sw
      split
      · rename_i h; rw [h]; exact hw
      · split
        · rename_i h; rw [h]; exact hw.symm
        · rfl
    unfold tk
    rw [this]
  refine ((((rowO_cg w b g (by omega)).mul (rowO_cg w b g (by omega))).mul (rowO_cg w b g (by omega))).mul (rowO_cg w b g (by omega))).trans ?_
  refine Cg.trans (Cg.of_eq ?_) ((((rowU_cg w b g _ (by omega)).mul (rowU_cg w b g _ (by omega))).mul (rowU_cg w b g _ (by omega))).mul (rowU_cg w b g _ (by omega))).symm
  have h1 := prd12 (fun k => fv (tk w b g (fun k => k) k))
  have h2 := prd12 (fun k => fv (tk w b g (sw x y) k))
  have h3 : prd ((List.range 12).map fun k => fv (tk w b g (sw x y) k)) = prd ((List.range 12).map fun k => fv (tk w b g (fun k => k) k)) := by
    have e : (List.range 12).map (fun k => fv (tk w b g (sw x y) k)) = (List.range 12).map (fun k => (fun j => fv (tk w b g (fun k => k) j)) (sw x y k)) := List.map_congr_left (fun k _ => by rw [hT])
    rw [e]
    exact prd_sw (fun j => fv (tk w b g (fun k => k) j)) hx hy
  simp only [Nat.reduceAdd]
  rw [← h1, ← h2, h3]
end
end Go.Proofs.Ytgimohchocjgcaa.V
