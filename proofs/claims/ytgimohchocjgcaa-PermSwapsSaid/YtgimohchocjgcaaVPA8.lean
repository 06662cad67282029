import Derived.Test.YtgimohchocjgcaaVPA7
set_option linter.unusedVariables false
set_option linter.unusedSimpArgs false
namespace Go.Proofs.Ytgimohchocjgcaa.V
section
variable {N : Nat} [Big N]
def Fin (N : Nat) (r : List Fr × Fr × Int × Unit) : Prop := (r.1.length < N ∧ r.1.length < 9223372036854775808) ∧ (r.2.2.1 = 0 ∨ r.2.1 = Fr.zero)
theorem fv_nm1 (x : Nat) : fv (nm 1 x) = (7 ^ (x / 2) % RR) * ((RR - 1) ^ (x % 2) % RR) % RR := by
  unfold nm fmul
  rw [fv_mod, fv_mod, fv_mod, root_one, Nat.pow_one]
theorem fv_tm (w x b g : Fr) : fv (tmF w x b g) = ((fv w + fv b * fv x % RR) % RR + fv g) % RR := by
  unfold tmF fadd fmul
  rw [fv_mod, fv_mod, fv_mod]
def bw0 : List Fr := [⟨1, 0, 0, 0⟩, ⟨2, 0, 0, 0⟩]
def bw1 : List Fr := [⟨3, 0, 0, 0⟩, ⟨4, 0, 0, 0⟩]
def bw2 : List Fr := [⟨5, 0, 0, 0⟩, ⟨6, 0, 0, 0⟩]
def bs0 : List Fr := [nm 1 0, nm 1 1]
def bs1 : List Fr := [nm 1 2, nm 1 3]
def bs2 : List Fr := [nm 1 4, nm 1 5]
theorem two_cases {P : Nat → Prop} (h0 : P 0) (h1 : P 1) (h2 : ∀ n, P (n + 2)) : ∀ p, P p
  | 0 => h0
  | 1 => h1
  | n + 2 => h2 n
theorem two_sc {x y : Fr} (hx : Sc x) (hy : Sc y) : ∀ p, Sc (([x, y] : List Fr).getD p Fr.zero) := two_cases hx hy (fun _ => sc_zero)
theorem nm0 : fv (nm 1 0) = 1 := by rw [fv_nm1]; decide +kernel
theorem nm1 : fv (nm 1 1) = RR - 1 := by rw [fv_nm1]; decide +kernel
theorem nm2 : fv (nm 1 2) = 7 := by rw [fv_nm1]; decide +kernel
theorem nm3 : fv (nm 1 3) = RR - 7 := by rw [fv_nm1]; decide +kernel
theorem nm4 : fv (nm 1 4) = 49 := by rw [fv_nm1]; decide +kernel
theorem nm5 : fv (nm 1 5) = RR - 49 := by rw [fv_nm1]; decide +kernel
def b8 : Fr := ⟨8, 0, 0, 0⟩
def b9 : Fr := ⟨9, 0, 0, 0⟩
theorem fv_k1 : fv ⟨1, 0, 0, 0⟩ = 1 := by decide +kernel
theorem fv_k2 : fv ⟨2, 0, 0, 0⟩ = 2 := by decide +kernel
theorem fv_k3 : fv ⟨3, 0, 0, 0⟩ = 3 := by decide +kernel
theorem fv_k4 : fv ⟨4, 0, 0, 0⟩ = 4 := by decide +kernel
theorem fv_k5 : fv ⟨5, 0, 0, 0⟩ = 5 := by decide +kernel
theorem fv_k6 : fv ⟨6, 0, 0, 0⟩ = 6 := by decide +kernel
theorem fv_b8 : fv b8 = 8 := by decide +kernel
theorem fv_b9 : fv b9 = 9 := by decide +kernel
theorem br0 : fv (rowU bw0 bw1 bw2 bs0 bs1 bs2 b8 b9 0) ≠ 0 := by
  have e0 : fv (unF b8 b9 bw0 bs0 0) = ((1 + 8 * 1 % RR) % RR + 9) % RR := by
    refine (fv_tm ⟨1, 0, 0, 0⟩ (nm 1 0) b8 b9).trans ?_
    rw [fv_k1, fv_b8, fv_b9, nm0]
  have e1 : fv (unF b8 b9 bw1 bs1 0) = ((3 + 8 * 7 % RR) % RR + 9) % RR := by
    refine (fv_tm ⟨3, 0, 0, 0⟩ (nm 1 2) b8 b9).trans ?_
    rw [fv_k3, fv_b8, fv_b9, nm2]
  have e2 : fv (unF b8 b9 bw2 bs2 0) = ((5 + 8 * 49 % RR) % RR + 9) % RR := by
    refine (fv_tm ⟨5, 0, 0, 0⟩ (nm 1 4) b8 b9).trans ?_
    rw [fv_k5, fv_b8, fv_b9, nm4]
  rw [Ne, rowU_zero, e0, e1, e2]
  decide +kernel
theorem br1 : fv (rowU bw0 bw1 bw2 bs0 bs1 bs2 b8 b9 1) ≠ 0 := by
  have e0 : fv (unF b8 b9 bw0 bs0 1) = ((2 + 8 * (RR - 1) % RR) % RR + 9) % RR := by
    refine (fv_tm ⟨2, 0, 0, 0⟩ (nm 1 1) b8 b9).trans ?_
    rw [fv_k2, fv_b8, fv_b9, nm1]
  have e1 : fv (unF b8 b9 bw1 bs1 1) = ((4 + 8 * (RR - 7) % RR) % RR + 9) % RR := by
    refine (fv_tm ⟨4, 0, 0, 0⟩ (nm 1 3) b8 b9).trans ?_
    rw [fv_k4, fv_b8, fv_b9, nm3]
  have e2 : fv (unF b8 b9 bw2 bs2 1) = ((6 + 8 * (RR - 49) % RR) % RR + 9) % RR := by
    refine (fv_tm ⟨6, 0, 0, 0⟩ (nm 1 5) b8 b9).trans ?_
    rw [fv_k6, fv_b8, fv_b9, nm5]
  rw [Ne, rowU_zero, e0, e1, e2]
  decide +kernel
theorem one_inv {x u : Fr} (h : IsInv u x) : fmul ⟨1, 0, 0, 0⟩ (fmul x u) = ⟨1, 0, 0, 0⟩ := by
  refine sc_eq (sc_mul _ _) sc_one ((fv_mul _ _).trans ?_)
  rw [fv_one, Nat.one_mul]
  refine (fv_mul _ _).trans ?_
  rw [Nat.mul_comm]
  exact h.2
theorem get0 (x y : Fr) : ([x, y] : List Fr).getD 0 Fr.zero = x := rfl
theorem get1 (x y : Fr) : ([x, y] : List Fr).getD 1 Fr.zero = y := rfl
theorem bo0 : rowO 1 2 bw0 bw1 bw2 b8 b9 0 = rowU bw0 bw1 bw2 bs0 bs1 bs2 b8 b9 0 := by
  unfold rowO rowU ovF unF bw0 bw1 bw2 bs0 bs1 bs2
  rw [get0, get0, get0, get0, get0, get0]
theorem bo1 : rowO 1 2 bw0 bw1 bw2 b8 b9 1 = rowU bw0 bw1 bw2 bs0 bs1 bs2 b8 b9 1 := by
  unfold rowO rowU ovF unF bw0 bw1 bw2 bs0 bs1 bs2
  rw [get1, get1, get1, get1, get1, get1]
theorem begun91 : q91 N 1 bw0 bw1 bw2 bs0 bs1 bs2 b8 b9 = some ([⟨1, 0, 0, 0⟩, ⟨1, 0, 0, 0⟩], ⟨1, 0, 0, 0⟩, 0, ()) := by
  have s8 : Sc b8 := by unfold Sc; rw [fv_b8]; decide
  have s9 : Sc b9 := by unfold Sc; rw [fv_b9]; decide
  have k : ∀ n : Nat, n < 10 → ∀ x : Fr, fv x = n → Sc x := fun n hn x hx => by
    unfold Sc; rw [hx]; exact Nat.lt_of_lt_of_le hn (by decide)
  rcases q91_eq (N := N) (L := 1) (nn := 2) (w0 := bw0) (w1 := bw1) (w2 := bw2) (s0 := bs0) (s1 := bs1) (s2 := bs2) (b := b8) (g := b9) (by omega) (by omega) rfl (two_sc (k 1 (by omega) _ fv_k1) (k 2 (by omega) _ fv_k2)) (two_sc (k 3 (by omega) _ fv_k3) (k 4 (by omega) _ fv_k4)) (two_sc (k 5 (by omega) _ fv_k5) (k 6 (by omega) _ fv_k6)) s8 s9 with ⟨a, e⟩ | ⟨a, ⟨p, p1, p2⟩, e⟩ | ⟨a, hz, ov, ui, h1, h2, hov, hui, e⟩
  · exact absurd ⟨⟨rfl, rfl⟩, ⟨rfl, rfl⟩, ⟨rfl, rfl⟩⟩ a
  · exfalso
    rcases (by omega : p = 0 ∨ p = 1) with h | h
    · rw [h] at p2; exact br0 p2
    · rw [h] at p2; exact br1 p2
  · have g0 : fmul ⟨1, 0, 0, 0⟩ (fmul (ov.getD 0 Fr.zero) (ui.getD 0 Fr.zero)) = ⟨1, 0, 0, 0⟩ := by
      rw [hov 0 (by omega), bo0]
      exact one_inv (hui 0 (by omega))
    have g1 : fmul ⟨1, 0, 0, 0⟩ (fmul (ov.getD 1 Fr.zero) (ui.getD 1 Fr.zero)) = ⟨1, 0, 0, 0⟩ := by
      rw [hov 1 (by omega), bo1]
      exact one_inv (hui 1 (by omega))
    have r0 : rz ov ui 0 = ⟨1, 0, 0, 0⟩ := rfl
    have r1 : rz ov ui 1 = ⟨1, 0, 0, 0⟩ := g0
    have r2 : rz ov ui 2 = ⟨1, 0, 0, 0⟩ := by
      show fmul (rz ov ui 1) _ = _
      rw [r1]
      exact g1
    refine Eq.trans e ?_
    rw [r2, show List.map (rz ov ui) (List.range 2) = [rz ov ui 0, rz ov ui 1] from rfl, r0, r1]
theorem s89_0 (n : Nat) : m89_4 N (n + 1) 0 bw0 bw1 bw2 [] [] [] = m89_4 N n 1 bw0 bw1 bw2 [nm 1 0] [] [] := by
  rw [m89_4_succ]
  unfold c89_4
  rw [ltI_true (by omega), cond_true, show q98 N 1 0 = some (nm 1 0, 0, ()) from q98_eq (L := 1) (x := 0) (by omega) (by omega) (by omega)]
  simp only [bsm]
  kernel_rfl
theorem s89_1 (n : Nat) : m89_4 N (n + 1) 1 bw0 bw1 bw2 [nm 1 0] [] [] = m89_4 N n 2 bw0 bw1 bw2 [nm 1 0, nm 1 1] [] [] := by
  rw [m89_4_succ]
  unfold c89_4
  rw [ltI_true (by omega), cond_true, show q98 N 1 1 = some (nm 1 1, 0, ()) from q98_eq (L := 1) (x := 1) (by omega) (by omega) (by omega)]
  simp only [bsm]
  kernel_rfl
theorem s89_2 (n : Nat) : m89_4 N (n + 1) 2 bw0 bw1 bw2 [nm 1 0, nm 1 1] [] [] = m89_4 N n 3 bw0 bw1 bw2 [nm 1 0, nm 1 1] [nm 1 2] [] := by
  rw [m89_4_succ]
  unfold c89_4
  rw [ltI_true (by omega), cond_true, show q98 N 1 2 = some (nm 1 2, 0, ()) from q98_eq (L := 1) (x := 2) (by omega) (by omega) (by omega)]
  simp only [bsm]
  kernel_rfl
theorem s89_3 (n : Nat) : m89_4 N (n + 1) 3 bw0 bw1 bw2 [nm 1 0, nm 1 1] [nm 1 2] [] = m89_4 N n 4 bw0 bw1 bw2 [nm 1 0, nm 1 1] [nm 1 2, nm 1 3] [] := by
  rw [m89_4_succ]
  unfold c89_4
  rw [ltI_true (by omega), cond_true, show q98 N 1 3 = some (nm 1 3, 0, ()) from q98_eq (L := 1) (x := 3) (by omega) (by omega) (by omega)]
  simp only [bsm]
  kernel_rfl
theorem s89_4 (n : Nat) : m89_4 N (n + 1) 4 bw0 bw1 bw2 [nm 1 0, nm 1 1] [nm 1 2, nm 1 3] [] = m89_4 N n 5 bw0 bw1 bw2 [nm 1 0, nm 1 1] [nm 1 2, nm 1 3] [nm 1 4] := by
  rw [m89_4_succ]
  unfold c89_4
  rw [ltI_true (by omega), cond_true, show q98 N 1 4 = some (nm 1 4, 0, ()) from q98_eq (L := 1) (x := 4) (by omega) (by omega) (by omega)]
  simp only [bsm]
  kernel_rfl
theorem s89_5 (n : Nat) : m89_4 N (n + 1) 5 bw0 bw1 bw2 [nm 1 0, nm 1 1] [nm 1 2, nm 1 3] [nm 1 4] = m89_4 N n 6 bw0 bw1 bw2 [nm 1 0, nm 1 1] [nm 1 2, nm 1 3] [nm 1 4, nm 1 5] := by
  rw [m89_4_succ]
  unfold c89_4
  rw [ltI_true (by omega), cond_true, show q98 N 1 5 = some (nm 1 5, 0, ()) from q98_eq (L := 1) (x := 5) (by omega) (by omega) (by omega)]
  simp only [bsm]
  kernel_rfl
theorem pbegun : q89 N = some (true, ()) := by
  have hB : 2000 ≤ N := Big.h
  obtain ⟨F, hF⟩ : ∃ F, N = F + 7 := ⟨N - 7, by omega⟩
  have hq : q89 N = m89_4 N (F + 7) 0 bw0 bw1 bw2 [] [] [] := congrArg (fun k => m89_4 N k 0 bw0 bw1 bw2 [] [] []) hF
  rw [hq, s89_0, s89_1, s89_2, s89_3, s89_4, s89_5, m89_4_succ]
  unfold c89_4
  rw [ltI_false (by omega), cond_false]
  refine (congrArg (fun o => Option.bind o _) begun91).trans ?_
  simp only [bsm]
  rw [eqI_true rfl, cond_true]
  rfl
end
end Go.Proofs.Ytgimohchocjgcaa.V
