import Derived.Test.YtgimohchocjgcaaVPA7
set_option linter.unusedVariables false
set_option linter.unusedSimpArgs false
namespace Go.Proofs.Ytgimohchocjgcaa.V
theorem m93_self (N : Nat) (l : List Fr) (hl : l.length < 9223372036854775808) : ∀ (k n i : Nat), i + k = l.length → k < n → m93_4 N n l l (i : Int) = some (true, ()) := by
  intro k
  induction k with
  | zero =>
    intro n i hi hn
    obtain ⟨n, rfl⟩ : ∃ m, n = m + 1 := ⟨n - 1, by omega⟩
    rw [m93_4_succ]
    unfold c93_4
    rw [ltI_false (by omega), cond_false]
  | succ k ih =>
    intro n i hi hn
    obtain ⟨n, rfl⟩ : ∃ m, n = m + 1 := ⟨n - 1, by omega⟩
    rw [m93_4_succ]
    unfold c93_4
    rw [ltI_true (by omega), cond_true, leI_zero, Bool.and_self, mst2, mst2, eqF_self, Bool.not_true, cond_false, wr_add1 (by omega)]
    exact ih n (i + 1) (by omega) (by omega)
theorem q93_self {N : Nat} (l : List Fr) (hl : l.length < 9223372036854775808) (hN : l.length < N) : q93 N l l = some (true, ()) := by
  unfold q93
  rw [eqI_true rfl, Bool.not_true, cond_false]
  exact m93_self N l hl l.length N 0 (by omega) hN
section
variable {N : Nat} [Big N]
def Fin (N : Nat) (r : List Fr × Fr × Int × Unit) : Prop := (r.1.length < N ∧ r.1.length < 9223372036854775808) ∧ (r.2.2.1 = 0 ∨ r.2.1 = Fr.zero)
theorem fin_err (e : Int) : ∃ r, perr e = some r ∧ Fin N r := by
  have hB : 2000 ≤ N := Big.h
  exact ⟨_, rfl, ⟨show 0 < N by omega, show 0 < 9223372036854775808 by omega⟩, .inr rfl⟩
theorem out91 {log : Int} {w0 w1 w2 s0 s1 s2 : List Fr} {b g : Fr} (h : Gd w0 w1 w2 s0 s1 s2 b g) : ∃ r, q91 N log w0 w1 w2 s0 s1 s2 b g = some r ∧ q92 N log w0 w1 w2 s0 s1 s2 b g = some r ∧ Fin N r := by
  have hB : 2000 ≤ N := Big.h
  by_cases h1 : log < 1
  · obtain ⟨r, r1, r2⟩ := fin_err (N := N) 1
    refine ⟨r, ?_, ?_, r2⟩
    · rw [← r1]; unfold q91; rw [ltI_true h1, cond_true]; rfl
    · rw [← r1]; unfold q92; rw [ltI_true h1, cond_true]; rfl
  by_cases h6 : 6 < log
  · obtain ⟨r, r1, r2⟩ := fin_err (N := N) 1
    refine ⟨r, ?_, ?_, r2⟩
    · rw [← r1]; unfold q91; rw [ltI_false h1, cond_false, ltI_true h6, cond_true]; rfl
    · rw [← r1]; unfold q92; rw [ltI_false h1, cond_false, ltI_true h6, cond_true]; rfl
  obtain ⟨L, rfl⟩ : ∃ L : Nat, log = (L : Int) := ⟨log.toNat, by omega⟩
  have hle := two_pow_le (show L ≤ 6 by omega)
  rw [q92_q91 (by omega) (by omega) h]
  rcases q91_eq (N := N) (s0 := s0) (s1 := s1) (s2 := s2) (show 1 ≤ L by omega) (by omega) rfl h.a0 h.a1 h.a2 h.b h.g with ⟨a, e⟩ | ⟨a, ⟨p, p1, p2⟩, e⟩ | ⟨a, hz, ov, ui, _, _, hov, hui, e⟩
  · obtain ⟨r, r1, r2⟩ := fin_err (N := N) 1
    exact ⟨r, e.trans r1, e.trans r1, r2⟩
  · obtain ⟨r, r1, r2⟩ := fin_err (N := N) 15
    exact ⟨r, e.trans r1, e.trans r1, r2⟩
  · exact ⟨_, e, e, ⟨by simp; omega, by simp; omega⟩, .inl rfl⟩
theorem fin18 {log : Int} {w0 w1 w2 s0 s1 s2 : List Fr} {b g : Fr} (h : Gd w0 w1 w2 s0 s1 s2 b g) (n : Nat) : m18_6 N (n + 1) log 3 w0 w1 w2 s0 s1 s2 b g = some (true, ()) := by
  obtain ⟨⟨l, z, e, u⟩, r1, r2, ⟨r3, r4⟩, r5⟩ := out91 (N := N) (log := log) h
  rw [m18_6_succ]
  unfold c18_6
  rw [ltI_false (by omega), cond_false, r1, r2]
  simp only [bsm]
  rw [eqI_true rfl, cond_true, q93_self l r4 r3]
  simp only [bsm]
  rw [cond_true]
  by_cases he : e = 0
  · rw [eqI_true he, Bool.not_true, cond_false, cond_true, eqF_self]
  · rw [eqI_false he, Bool.not_false, cond_true]
    rcases r5 with r5 | r5
    · exact absurd r5 he
    · have r6 : z = Fr.zero := r5
      rw [r6, show eqF Fr.zero ⟨0, 0, 0, 0⟩ = true from eqF_self _, cond_true]
theorem fv_nm1 (x : Nat) : fv (nm 1 x) = (7 ^ (x / 2) % RR) * ((RR - 1) ^ (x % 2) % RR) % RR := by
  unfold nm fmul
  rw [fv_mod, fv_mod, fv_mod, root_one, Nat.pow_one]
theorem fv_tm (w x b g : Fr) : fv (tmF w x b g) = ((fv w + fv b * fv x % RR) % RR + fv g) % RR := by
  unfold tmF fadd fmul
  rw [fv_mod, fv_mod, fv_mod]
def bw0 : List Fr := [⟨1, 0, 0, 0⟩, ⟨2, 0, 0, 0⟩]
def bw1 : List Fr := [⟨3, 0, 0, 0⟩, ⟨4, 0, 0, 0⟩]
def bw2 : List Fr := [⟨5, 0, 0, 0⟩, ⟨6, 0, 0, 0⟩]
def bs0 : List Fr := [nm 1 0, nm 1 1]
def bs1 : List Fr := [nm 1 2, nm 1 3]
def bs2 : List Fr := [nm 1 4, nm 1 5]
theorem two_cases {P : Nat → Prop} (h0 : P 0) (h1 : P 1) (h2 : ∀ n, P (n + 2)) : ∀ p, P p
  | 0 => h0
  | 1 => h1
  | n + 2 => h2 n
theorem two_sc {x y : Fr} (hx : Sc x) (hy : Sc y) : ∀ p, Sc (([x, y] : List Fr).getD p Fr.zero) := two_cases hx hy (fun _ => sc_zero)
theorem nm0 : fv (nm 1 0) = 1 := by rw [fv_nm1]; decide +kernel
theorem nm1 : fv (nm 1 1) = RR - 1 := by rw [fv_nm1]; decide +kernel
theorem nm2 : fv (nm 1 2) = 7 := by rw [fv_nm1]; decide +kernel
theorem nm3 : fv (nm 1 3) = RR - 7 := by rw [fv_nm1]; decide +kernel
theorem nm4 : fv (nm 1 4) = 49 := by rw [fv_nm1]; decide +kernel
theorem nm5 : fv (nm 1 5) = RR - 49 := by rw [fv_nm1]; decide +kernel
def b8 : Fr := ⟨8, 0, 0, 0⟩
def b9 : Fr := ⟨9, 0, 0, 0⟩
theorem fv_k1 : fv ⟨1, 0, 0, 0⟩ = 1 := by decide +kernel
theorem fv_k2 : fv ⟨2, 0, 0, 0⟩ = 2 := by decide +kernel
theorem fv_k3 : fv ⟨3, 0, 0, 0⟩ = 3 := by decide +kernel
theorem fv_k4 : fv ⟨4, 0, 0, 0⟩ = 4 := by decide +kernel
theorem fv_k5 : fv ⟨5, 0, 0, 0⟩ = 5 := by decide +kernel
theorem fv_k6 : fv ⟨6, 0, 0, 0⟩ = 6 := by decide +kernel
theorem fv_b8 : fv b8 = 8 := by decide +kernel
theorem fv_b9 : fv b9 = 9 := by decide +kernel
theorem br0 : fv (rowU bw0 bw1 bw2 bs0 bs1 bs2 b8 b9 0) ≠ 0 := by
  have e0 : fv (unF b8 b9 bw0 bs0 0) = ((1 + 8 * 1 % RR) % RR + 9) % RR := by
    refine (fv_tm ⟨1, 0, 0, 0⟩ (nm 1 0) b8 b9).trans ?_
    rw [fv_k1, fv_b8, fv_b9, nm0]
  have e1 : fv (unF b8 b9 bw1 bs1 0) = ((3 + 8 * 7 % RR) % RR + 9) % RR := by
    refine (fv_tm ⟨3, 0, 0, 0⟩ (nm 1 2) b8 b9).trans ?_
    rw [fv_k3, fv_b8, fv_b9, nm2]
  have e2 : fv (unF b8 b9 bw2 bs2 0) = ((5 + 8 * 49 % RR) % RR + 9) % RR := by
    refine (fv_tm ⟨5, 0, 0, 0⟩ (nm 1 4) b8 b9).trans ?_
    rw [fv_k5, fv_b8, fv_b9, nm4]
  rw [Ne, rowU_zero, e0, e1, e2]
  decide +kernel
theorem br1 : fv (rowU bw0 bw1 bw2 bs0 bs1 bs2 b8 b9 1) ≠ 0 := by
  have e0 : fv (unF b8 b9 bw0 bs0 1) = ((2 + 8 * (RR - 1) % RR) % RR + 9) % RR := by
    refine (fv_tm ⟨2, 0, 0, 0⟩ (nm 1 1) b8 b9).trans ?_
    rw [fv_k2, fv_b8, fv_b9, nm1]
  have e1 : fv (unF b8 b9 bw1 bs1 1) = ((4 + 8 * (RR - 7) % RR) % RR + 9) % RR := by
    refine (fv_tm ⟨4, 0, 0, 0⟩ (nm 1 3) b8 b9).trans ?_
    rw [fv_k4, fv_b8, fv_b9, nm3]
  have e2 : fv (unF b8 b9 bw2 bs2 1) = ((6 + 8 * (RR - 49) % RR) % RR + 9) % RR := by
    refine (fv_tm ⟨6, 0, 0, 0⟩ (nm 1 5) b8 b9).trans ?_
    rw [fv_k6, fv_b8, fv_b9, nm5]
  rw [Ne, rowU_zero, e0, e1, e2]
  decide +kernel
theorem one_inv {x u : Fr} (h : IsInv u x) : fmul ⟨1, 0, 0, 0⟩ (fmul x u) = ⟨1, 0, 0, 0⟩ := by
  refine sc_eq (sc_mul _ _) sc_one ((fv_mul _ _).trans ?_)
  rw [fv_one, Nat.one_mul]
  refine (fv_mul _ _).trans ?_
  rw [Nat.mul_comm]
  exact h.2
theorem get0 (x y : Fr) : ([x, y] : List Fr).getD 0 Fr.zero = x := rfl
theorem get1 (x y : Fr) : ([x, y] : List Fr).getD 1 Fr.zero = y := rfl
theorem bo0 : rowO 1 2 bw0 bw1 bw2 b8 b9 0 = rowU bw0 bw1 bw2 bs0 bs1 bs2 b8 b9 0 := by
  unfold rowO rowU ovF unF bw0 bw1 bw2 bs0 bs1 bs2
  rw [get0, get0, get0, get0, get0, get0]
theorem bo1 : rowO 1 2 bw0 bw1 bw2 b8 b9 1 = rowU bw0 bw1 bw2 bs0 bs1 bs2 b8 b9 1 := by
  unfold rowO rowU ovF unF bw0 bw1 bw2 bs0 bs1 bs2
  rw [get1, get1, get1, get1, get1, get1]
theorem begun91 : q91 N 1 bw0 bw1 bw2 bs0 bs1 bs2 b8 b9 = some ([⟨1, 0, 0, 0⟩, ⟨1, 0, 0, 0⟩], ⟨1, 0, 0, 0⟩, 0, ()) := by
  have s8 : Sc b8 := by unfold Sc; rw [fv_b8]; decide
  have s9 : Sc b9 := by unfold Sc; rw [fv_b9]; decide
  have k : ∀ n : Nat, n < 10 → ∀ x : Fr, fv x = n → Sc x := fun n hn x hx => by
    unfold Sc; rw [hx]; exact Nat.lt_of_lt_of_le hn (by decide)
  rcases q91_eq (N := N) (L := 1) (nn := 2) (w0 := bw0) (w1 := bw1) (w2 := bw2) (s0 := bs0) (s1 := bs1) (s2 := bs2) (b := b8) (g := b9) (by omega) (by omega) rfl (two_sc (k 1 (by omega) _ fv_k1) (k 2 (by omega) _ fv_k2)) (two_sc (k 3 (by omega) _ fv_k3) (k 4 (by omega) _ fv_k4)) (two_sc (k 5 (by omega) _ fv_k5) (k 6 (by omega) _ fv_k6)) s8 s9 with ⟨a, e⟩ | ⟨a, ⟨p, p1, p2⟩, e⟩ | ⟨a, hz, ov, ui, h1, h2, hov, hui, e⟩
  · exact absurd ⟨⟨rfl, rfl⟩, ⟨rfl, rfl⟩, ⟨rfl, rfl⟩⟩ a
  · exfalso
    rcases (by omega : p = 0 ∨ p = 1) with h | h
    · rw [h] at p2; exact br0 p2
    · rw [h] at p2; exact br1 p2
  · have g0 : fmul ⟨1, 0, 0, 0⟩ (fmul (ov.getD 0 Fr.zero) (ui.getD 0 Fr.zero)) = ⟨1, 0, 0, 0⟩ := by
      rw [hov 0 (by omega), bo0]
      exact one_inv (hui 0 (by omega))
    have g1 : fmul ⟨1, 0, 0, 0⟩ (fmul (ov.getD 1 Fr.zero) (ui.getD 1 Fr.zero)) = ⟨1, 0, 0, 0⟩ := by
      rw [hov 1 (by omega), bo1]
      exact one_inv (hui 1 (by omega))
    have r0 : rz ov ui 0 = ⟨1, 0, 0, 0⟩ := rfl
    have r1 : rz ov ui 1 = ⟨1, 0, 0, 0⟩ := g0
    have r2 : rz ov ui 2 = ⟨1, 0, 0, 0⟩ := by
      show fmul (rz ov ui 1) _ = _
      rw [r1]
      exact g1
    refine Eq.trans e ?_
    rw [r2, show List.map (rz ov ui) (List.range 2) = [rz ov ui 0, rz ov ui 1] from rfl, r0, r1]
theorem s89_0 (n : Nat) : m89_4 N (n + 1) 0 bw0 bw1 bw2 [] [] [] = m89_4 N n 1 bw0 bw1 bw2 [nm 1 0] [] [] := by
  rw [m89_4_succ]
  unfold c89_4
  rw [ltI_true (by omega), cond_true, show q98 N 1 0 = some (nm 1 0, 0, ()) from q98_eq (L := 1) (x := 0) (by omega) (by omega) (by omega)]
  simp only [bsm]
  rw [show eqI (wr (Int.tdiv (0 : Int) 2)) ((0 : Nat) : Int) = true from by decide, cond_true, leN_true (by decide), mst2, cond_true, show wr ((0 : Int) + 1) = 1 by decide]
  rfl
theorem s89_1 (n : Nat) : m89_4 N (n + 1) 1 bw0 bw1 bw2 [nm 1 0] [] [] = m89_4 N n 2 bw0 bw1 bw2 [nm 1 0, nm 1 1] [] [] := by
  rw [m89_4_succ]
  unfold c89_4
  rw [ltI_true (by omega), cond_true, show q98 N 1 1 = some (nm 1 1, 0, ()) from q98_eq (L := 1) (x := 1) (by omega) (by omega) (by omega)]
  simp only [bsm]
  rw [show eqI (wr (Int.tdiv (1 : Int) 2)) ((0 : Nat) : Int) = true from by decide, cond_true, leN_true (by decide), mst2, cond_true, show wr ((1 : Int) + 1) = 2 by decide]
  rfl
theorem s89_2 (n : Nat) : m89_4 N (n + 1) 2 bw0 bw1 bw2 [nm 1 0, nm 1 1] [] [] = m89_4 N n 3 bw0 bw1 bw2 [nm 1 0, nm 1 1] [nm 1 2] [] := by
  rw [m89_4_succ]
  unfold c89_4
  rw [ltI_true (by omega), cond_true, show q98 N 1 2 = some (nm 1 2, 0, ()) from q98_eq (L := 1) (x := 2) (by omega) (by omega) (by omega)]
  simp only [bsm]
  rw [show eqI (wr (Int.tdiv (2 : Int) 2)) ((0 : Nat) : Int) = false from by decide, cond_false, show eqI (wr (Int.tdiv (2 : Int) 2)) (((0 : Nat) + (1 : Nat) : Nat) : Int) = true from by decide, cond_true, leN_true (by decide), mst2, cond_false, cond_true, show wr ((2 : Int) + 1) = 3 by decide]
  rfl
theorem s89_3 (n : Nat) : m89_4 N (n + 1) 3 bw0 bw1 bw2 [nm 1 0, nm 1 1] [nm 1 2] [] = m89_4 N n 4 bw0 bw1 bw2 [nm 1 0, nm 1 1] [nm 1 2, nm 1 3] [] := by
  rw [m89_4_succ]
  unfold c89_4
  rw [ltI_true (by omega), cond_true, show q98 N 1 3 = some (nm 1 3, 0, ()) from q98_eq (L := 1) (x := 3) (by omega) (by omega) (by omega)]
  simp only [bsm]
  rw [show eqI (wr (Int.tdiv (3 : Int) 2)) ((0 : Nat) : Int) = false from by decide, cond_false, show eqI (wr (Int.tdiv (3 : Int) 2)) (((0 : Nat) + (1 : Nat) : Nat) : Int) = true from by decide, cond_true, leN_true (by decide), mst2, cond_false, cond_true, show wr ((3 : Int) + 1) = 4 by decide]
  rfl
theorem s89_4 (n : Nat) : m89_4 N (n + 1) 4 bw0 bw1 bw2 [nm 1 0, nm 1 1] [nm 1 2, nm 1 3] [] = m89_4 N n 5 bw0 bw1 bw2 [nm 1 0, nm 1 1] [nm 1 2, nm 1 3] [nm 1 4] := by
  rw [m89_4_succ]
  unfold c89_4
  rw [ltI_true (by omega), cond_true, show q98 N 1 4 = some (nm 1 4, 0, ()) from q98_eq (L := 1) (x := 4) (by omega) (by omega) (by omega)]
  simp only [bsm]
  rw [show eqI (wr (Int.tdiv (4 : Int) 2)) ((0 : Nat) : Int) = false from by decide, cond_false, show eqI (wr (Int.tdiv (4 : Int) 2)) (((0 : Nat) + (1 : Nat) : Nat) : Int) = false from by decide, cond_false, show eqI (wr (Int.tdiv (4 : Int) 2)) (((0 : Nat) + (1 : Nat) + (1 : Nat) : Nat) : Int) = true from by decide, mst2, leN_true (by decide), mst2, cond_false, cond_false, mst2, show wr ((4 : Int) + 1) = 5 by decide]
  rfl
theorem s89_5 (n : Nat) : m89_4 N (n + 1) 5 bw0 bw1 bw2 [nm 1 0, nm 1 1] [nm 1 2, nm 1 3] [nm 1 4] = m89_4 N n 6 bw0 bw1 bw2 [nm 1 0, nm 1 1] [nm 1 2, nm 1 3] [nm 1 4, nm 1 5] := by
  rw [m89_4_succ]
  unfold c89_4
  rw [ltI_true (by omega), cond_true, show q98 N 1 5 = some (nm 1 5, 0, ()) from q98_eq (L := 1) (x := 5) (by omega) (by omega) (by omega)]
  simp only [bsm]
  rw [show eqI (wr (Int.tdiv (5 : Int) 2)) ((0 : Nat) : Int) = false from by decide, cond_false, show eqI (wr (Int.tdiv (5 : Int) 2)) (((0 : Nat) + (1 : Nat) : Nat) : Int) = false from by decide, cond_false, show eqI (wr (Int.tdiv (5 : Int) 2)) (((0 : Nat) + (1 : Nat) + (1 : Nat) : Nat) : Int) = true from by decide, mst2, leN_true (by decide), mst2, cond_false, cond_false, mst2, show wr ((5 : Int) + 1) = 6 by decide]
  rfl
theorem pbegun : q89 N = some (true, ()) := by
  have hB : 2000 ≤ N := Big.h
  obtain ⟨F, hF⟩ : ∃ F, N = F + 7 := ⟨N - 7, by omega⟩
  have hq : q89 N = m89_4 N (F + 7) 0 bw0 bw1 bw2 [] [] [] := congrArg (fun k => m89_4 N k 0 bw0 bw1 bw2 [] [] []) hF
  rw [hq, s89_0, s89_1, s89_2, s89_3, s89_4, s89_5, m89_4_succ]
  unfold c89_4
  rw [ltI_false (by omega), cond_false]
  refine (congrArg (fun o => Option.bind o _) begun91).trans ?_
  simp only [bsm]
  rw [eqI_true rfl, cond_true]
  rfl
theorem perm_all_plain (log : Int) (w0 w1 w2 s0 s1 s2 : List Fr) (b g : Fr) (l0 : w0.length < N) (l1 : w1.length < N) (l2 : w2.length < N) (k0 : s0.length < N) (k1 : s1.length < N) (k2 : s2.length < N)
    (m0 : w0.length < 9223372036854775808) (m1 : w1.length < 9223372036854775808) (m2 : w2.length < 9223372036854775808) (n0 : s0.length < 9223372036854775808) (n1 : s1.length < 9223372036854775808) (n2 : s2.length < 9223372036854775808) : q18 N log w0 w1 w2 s0 s1 s2 b g = some (true, ()) := by
  have hB : 2000 ≤ N := Big.h
  have hN : 10 < N := by omega
  obtain ⟨F, hF⟩ : ∃ F, N = F + 4 := ⟨N - 4, by omega⟩
  unfold q18
  rw [pbegun]
  simp only [bsm]
  rw [Bool.not_true, cond_false, q69_eq hN]
  simp only [bsm]
  by_cases hb : fv b < RR
  case neg => rw [decide_eq_false hb, Bool.not_false, cond_true]
  rw [decide_eq_true hb, Bool.not_true, cond_false, q69_eq hN]
  simp only [bsm]
  by_cases hg : fv g < RR
  case neg => rw [decide_eq_false hg, Bool.not_false, cond_true]
  rw [decide_eq_true hg, Bool.not_true, cond_false]
  refine (congrArg (fun k => m18_6 N k log 0 w0 w1 w2 s0 s1 s2 b g) hF).trans ?_
  rw [show m18_6 N (F + 4) = c18_6 N (m18_6 N (F + 3)) from by funext; exact m18_6_succ ..]
  unfold c18_6
  rw [ltI_true (by omega), cond_true, show eqI (0 : Int) ((0 : Nat) : Int) = true from rfl, cond_true, mst2, q90_eq hN l0 m0]
  simp only [bsm]
  cases hw0 : (allSc w0 && leI (w0.length : Int) 8)
  case false => rw [Bool.not_false, cond_true]
  rw [Bool.not_true, cond_false, q90_eq hN k0 n0]
  simp only [bsm]
  cases hs0 : (allSc s0 && leI (s0.length : Int) 8)
  case false => rw [Bool.not_false, cond_true]
  rw [Bool.not_true, cond_false, show wr (((0 : Nat) : Int) + 1) = 1 by decide]
  rw [Bool.and_eq_true] at hw0 hs0
  rw [show m18_6 N (F + 3) = c18_6 N (m18_6 N (F + 2)) from by funext; exact m18_6_succ ..]
  unfold c18_6
  rw [ltI_true (by omega), cond_true, show eqI (1 : Int) ((0 : Nat) : Int) = false from rfl, cond_false, show eqI (1 : Int) (((0 : Nat) + (1 : Nat) : Nat) : Int) = true from rfl, cond_true, mst2, q90_eq hN l1 m1]
  simp only [bsm]
  cases hw1 : (allSc w1 && leI (w1.length : Int) 8)
  case false => rw [Bool.not_false, cond_true]
  rw [Bool.not_true, cond_false, q90_eq hN k1 n1]
  simp only [bsm]
  cases hs1 : (allSc s1 && leI (s1.length : Int) 8)
  case false => rw [Bool.not_false, cond_true]
  rw [Bool.not_true, cond_false, show wr ((((0 : Nat) + (1 : Nat) : Nat) : Int) + 1) = 2 by decide]
  rw [Bool.and_eq_true] at hw1 hs1
  rw [show m18_6 N (F + 2) = c18_6 N (m18_6 N (F + 1)) from by funext; exact m18_6_succ ..]
  unfold c18_6
  rw [ltI_true (by omega), cond_true, show eqI (2 : Int) ((0 : Nat) : Int) = false from rfl, cond_false, show eqI (2 : Int) (((0 : Nat) + (1 : Nat) : Nat) : Int) = false from rfl, cond_false, show eqI (2 : Int) (((0 : Nat) + (1 : Nat) + (1 : Nat) : Nat) : Int) = true from rfl, mst2, mst2, q90_eq hN l2 m2]
  simp only [bsm]
  cases hw2 : (allSc w2 && leI (w2.length : Int) 8)
  case false => rw [Bool.not_false, cond_true]
  rw [Bool.not_true, cond_false, q90_eq hN k2 n2]
  simp only [bsm]
  cases hs2 : (allSc s2 && leI (s2.length : Int) 8)
  case false => rw [Bool.not_false, cond_true]
  rw [Bool.not_true, cond_false, show wr ((((0 : Nat) + (1 : Nat) + (1 : Nat) : Nat) : Int) + 1) = 3 by decide]
  rw [Bool.and_eq_true] at hw2 hs2
  exact fin18 ⟨allSc_get hw0.1, allSc_get hw1.1, allSc_get hw2.1, allSc_get hs0.1, allSc_get hs1.1, allSc_get hs2.1, hb, hg⟩ F
end
theorem fuel6 {α : Type} (a b c d e f : List α) : ∃ N, Big N ∧ a.length < N ∧ b.length < N ∧ c.length < N ∧ d.length < N ∧ e.length < N ∧ f.length < N :=
  ⟨2000 + a.length + b.length + c.length + d.length + e.length + f.length, ⟨by omega⟩, by omega, by omega, by omega, by omega, by omega, by omega⟩
end Go.Proofs.Ytgimohchocjgcaa.V
