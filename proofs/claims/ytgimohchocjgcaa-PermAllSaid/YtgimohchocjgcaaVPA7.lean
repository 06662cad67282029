import Derived.Test.YtgimohchocjgcaaVPA6
set_option linter.unusedVariables false
set_option linter.unusedSimpArgs false
namespace Go.Proofs.Ytgimohchocjgcaa.V
section
variable {N : Nat} [Big N] {L nn : Nat} {w0 w1 w2 s0 s1 s2 : List Fr} {b g : Fr}
structure Gd (w0 w1 w2 s0 s1 s2 : List Fr) (b g : Fr) : Prop where
  a0 : ∀ p, Sc (w0.getD p Fr.zero)
  a1 : ∀ p, Sc (w1.getD p Fr.zero)
  a2 : ∀ p, Sc (w2.getD p Fr.zero)
  c0 : ∀ p, Sc (s0.getD p Fr.zero)
  c1 : ∀ p, Sc (s1.getD p Fr.zero)
  c2 : ∀ p, Sc (s2.getD p Fr.zero)
  b : Sc b
  g : Sc g
theorem rowU_sc (p : Nat) : Sc (rowU w0 w1 w2 s0 s1 s2 b g p) := sc_mul _ _
theorem cg3 (x y z : Fr) : Cg (fv (fmul (fmul (fmul ⟨1, 0, 0, 0⟩ x) y) z)) (fv x * fv y * fv z) := by
  refine (fv_mul _ _).trans (((fv_mul _ _).trans (((fv_mul _ _).trans ?_).mul Cg.rfl')).mul Cg.rfl')
  rw [fv_one, Nat.one_mul]
  exact Cg.rfl'
theorem rowU_zero (p : Nat) : fv (rowU w0 w1 w2 s0 s1 s2 b g p) = 0 ↔ (fv (unF b g w0 s0 p) = 0 ∨ fv (unF b g w1 s1 p) = 0) ∨ fv (unF b g w2 s2 p) = 0 := by
  have u : ∀ w s, Sc (unF b g w s p) := fun w s => tmF_sc _ _ _ _
  unfold rowU
  rw [fmul_zero (sc_mul _ _) (u _ _), fmul_zero (sc_mul _ _) (u _ _), fmul_zero sc_one (u _ _), fv_one]
  simp
theorem row_cg {z u v0 v1 v2 o0 o1 o2 U0 U1 U2 : Fr} (h : IsInv u (fmul (fmul (fmul ⟨1, 0, 0, 0⟩ U0) U1) U2)) (h0 : IsInv v0 U0) (h1 : IsInv v1 U1) (h2 : IsInv v2 U2) :
    fmul (fmul (fmul z (fmul o0 v0)) (fmul o1 v1)) (fmul o2 v2) = fmul z (fmul (fmul (fmul (fmul ⟨1, 0, 0, 0⟩ o0) o1) o2) u) := by
  refine sc_eq (sc_mul _ _) (sc_mul _ _) ?_
  have hu : Cg (fv u) (fv v0 * fv v1 * fv v2) := inv_prod ((Cg.rfl'.mul (cg3 U0 U1 U2).symm).trans h.2) h0.2 h1.2 h2.2
  have e1 : Cg (fv (fmul (fmul (fmul z (fmul o0 v0)) (fmul o1 v1)) (fmul o2 v2))) (fv z * (fv o0 * fv v0) * (fv o1 * fv v1) * (fv o2 * fv v2)) :=
    (fv_mul _ _).trans (((fv_mul _ _).trans (((fv_mul _ _).trans (Cg.rfl'.mul (fv_mul _ _))).mul (fv_mul _ _))).mul (fv_mul _ _))
  have e2 : Cg (fv (fmul z (fmul (fmul (fmul (fmul ⟨1, 0, 0, 0⟩ o0) o1) o2) u))) (fv z * (fv o0 * fv o1 * fv o2 * (fv v0 * fv v1 * fv v2))) :=
    (fv_mul _ _).trans (Cg.rfl'.mul ((fv_mul _ _).trans ((cg3 _ _ _).mul hu)))
  refine e1.trans (Cg.trans (Cg.of_eq ?_) e2.symm)
  ac_rfl
theorem row_last {A : Int → Int → List Fr → List Fr → List Fr → List Fr → List Fr → List Fr → Fr → Fr → Fr → Fr → Fr → Fr → List Fr → Option (List Fr × Fr × Int × Unit)} (n i : Nat) (hi : i < 64) (c x z : Fr) (out : List Fr) :
    m92_17 N A (n + 1) (nn : Int) (i : Int) 3 w0 w1 w2 s0 s1 s2 b g c (frN (rootN L)) x z out = A (nn : Int) ((i + 1 : Nat) : Int) w0 w1 w2 s0 s1 s2 b g c (frN (rootN L)) (fmul x (frN (rootN L))) z out := by
  have hB : 2000 ≤ N := Big.h
  rw [m92_17_succ]
  unfold c92_17
  rw [ltI_false (by omega), cond_false, q182_eq (by omega) (sc_root L)]
  simp only [bsm]
  rw [wr_add1 (by omega)]
theorem row_ok (h : Gd w0 w1 w2 s0 s1 s2 b g) (hl : Lens nn w0 w1 w2 s0 s1 s2) (hnn : nn = 2 ^ L) (hle : nn ≤ 64) (n i : Nat) (hi : i < nn) (c x z u : Fr) (out : List Fr) (ho : out.length = i) (hx : Sc x) (hxi : Cg (fv x) (rootN L ^ i))
    (hz : fv (rowU w0 w1 w2 s0 s1 s2 b g i) ≠ 0) (hu : IsInv u (rowU w0 w1 w2 s0 s1 s2 b g i)) :
    m92_13 N (n + 1) (nn : Int) (i : Int) w0 w1 w2 s0 s1 s2 b g c (frN (rootN L)) x z out = m92_13 N n (nn : Int) ((i + 1 : Nat) : Int) w0 w1 w2 s0 s1 s2 b g c (frN (rootN L)) (fmul x (frN (rootN L))) (fmul z (fmul (rowO L nn w0 w1 w2 b g i) u)) (out ++ [z]) := by
  have hB : 2000 ≤ N := Big.h
  obtain ⟨F, hF⟩ : ∃ F, N = F + 4 := ⟨N - 4, by omega⟩
  rw [Ne, rowU_zero, not_or, not_or] at hz
  rw [m92_13_succ]
  unfold c92_13
  rw [ltI_true (by omega), cond_true, leN_true (by simp [ho]; omega), mst2]
  refine (congrArg (fun k => m92_17 N (m92_13 N n) k (nn : Int) (i : Int) 0 w0 w1 w2 s0 s1 s2 b g c (frN (rootN L)) x z (out ++ [z])) hF).trans ?_
  obtain ⟨v0, p0, q0⟩ := r92_0 (N := N) (A := m92_13 N n) (w1 := w1) (w2 := w2) (s1 := s1) (s2 := s2) hnn hle h.a0 h.c0 hl.1.1 hl.1.2 h.b h.g (F + 3) i hi c (frN (rootN L)) x z (out ++ [z]) hx hxi hz.1.1
  refine q0.trans ?_
  obtain ⟨v1, p1, q1⟩ := r92_1 (N := N) (A := m92_13 N n) (w0 := w0) (w2 := w2) (s0 := s0) (s2 := s2) hnn hle h.a1 h.c1 hl.2.1.1 hl.2.1.2 h.b h.g (F + 2) i hi c (frN (rootN L)) x (fmul z (fmul (ovF L nn b g 0 w0 i) v0)) (out ++ [z]) hx hxi hz.1.2
  refine q1.trans ?_
  obtain ⟨v2, p2, q2⟩ := r92_2 (N := N) (A := m92_13 N n) (w0 := w0) (w1 := w1) (s0 := s0) (s1 := s1) hnn hle h.a2 h.c2 hl.2.2.1 hl.2.2.2 h.b h.g (F + 1) i hi c (frN (rootN L)) x (fmul (fmul z (fmul (ovF L nn b g 0 w0 i) v0)) (fmul (ovF L nn b g 1 w1 i) v1)) (out ++ [z]) hx hxi hz.2
  refine q2.trans ?_
  rw [row_last F i (by omega), row_cg hu p0 p1 p2]
  rfl
theorem row_zero (h : Gd w0 w1 w2 s0 s1 s2 b g) (hl : Lens nn w0 w1 w2 s0 s1 s2) (hnn : nn = 2 ^ L) (hle : nn ≤ 64) (n i : Nat) (hi : i < nn) (c r x z : Fr) (out : List Fr) (ho : out.length = i) (hx : Sc x) (hxi : Cg (fv x) (rootN L ^ i))
    (hz : fv (rowU w0 w1 w2 s0 s1 s2 b g i) = 0) :
    m92_13 N (n + 1) (nn : Int) (i : Int) w0 w1 w2 s0 s1 s2 b g c r x z out = perr 15 := by
  have hB : 2000 ≤ N := Big.h
  obtain ⟨F, hF⟩ : ∃ F, N = F + 4 := ⟨N - 4, by omega⟩
  rw [rowU_zero] at hz
  rw [m92_13_succ]
  unfold c92_13
  rw [ltI_true (by omega), cond_true, leN_true (by simp [ho]; omega), mst2]
  refine (congrArg (fun k => m92_17 N (m92_13 N n) k (nn : Int) (i : Int) 0 w0 w1 w2 s0 s1 s2 b g c r x z (out ++ [z])) hF).trans ?_
  by_cases z0 : fv (unF b g w0 s0 i) = 0
  · exact z92_0 (N := N) (A := m92_13 N n) (w1 := w1) (w2 := w2) (s1 := s1) (s2 := s2) hnn hle h.a0 h.c0 hl.1.1 hl.1.2 h.b h.g (F + 3) i hi c r x z (out ++ [z]) hx hxi z0
  obtain ⟨v0, p0, q0⟩ := r92_0 (N := N) (A := m92_13 N n) (w1 := w1) (w2 := w2) (s1 := s1) (s2 := s2) hnn hle h.a0 h.c0 hl.1.1 hl.1.2 h.b h.g (F + 3) i hi c r x z (out ++ [z]) hx hxi z0
  refine q0.trans ?_
  by_cases z1 : fv (unF b g w1 s1 i) = 0
  · exact z92_1 (N := N) (A := m92_13 N n) (w0 := w0) (w2 := w2) (s0 := s0) (s2 := s2) hnn hle h.a1 h.c1 hl.2.1.1 hl.2.1.2 h.b h.g (F + 2) i hi c r x _ (out ++ [z]) hx hxi z1
  obtain ⟨v1, p1, q1⟩ := r92_1 (N := N) (A := m92_13 N n) (w0 := w0) (w2 := w2) (s0 := s0) (s2 := s2) hnn hle h.a1 h.c1 hl.2.1.1 hl.2.1.2 h.b h.g (F + 2) i hi c r x (fmul z (fmul (ovF L nn b g 0 w0 i) v0)) (out ++ [z]) hx hxi z1
  refine q1.trans ?_
  rcases hz with (h0 | h1) | h2
  · exact absurd h0 z0
  · exact absurd h1 z1
  · exact z92_2 (N := N) (A := m92_13 N n) (w0 := w0) (w1 := w1) (s0 := s0) (s1 := s1) hnn hle h.a2 h.c2 hl.2.2.1 hl.2.2.2 h.b h.g (F + 1) i hi c r x _ (out ++ [z]) hx hxi h2
theorem root_step {x : Fr} {i : Nat} (h : Cg (fv x) (rootN L ^ i)) : Cg (fv (fmul x (frN (rootN L)))) (rootN L ^ (i + 1)) := by
  refine (fv_mul _ _).trans ?_
  rw [fv_frN' (rootN_lt L), Nat.pow_succ]
  exact h.mul Cg.rfl'
theorem m92_ok (h : Gd w0 w1 w2 s0 s1 s2 b g) (hl : Lens nn w0 w1 w2 s0 s1 s2) (hnn : nn = 2 ^ L) (hle : nn ≤ 64) (c : Fr) (ov ui : List Fr) (hz : ∀ p, p < nn → fv (rowU w0 w1 w2 s0 s1 s2 b g p) ≠ 0) (hov : ∀ p, p < nn → ov.getD p Fr.zero = rowO L nn w0 w1 w2 b g p) (hui : ∀ p, p < nn → IsInv (ui.getD p Fr.zero) (rowU w0 w1 w2 s0 s1 s2 b g p)) :
    ∀ (k n i : Nat) (x z : Fr) (out : List Fr), i + k = nn → k < n → Sc x → Cg (fv x) (rootN L ^ i) → z = rz ov ui i → out = (List.range i).map (rz ov ui) →
    m92_13 N n (nn : Int) (i : Int) w0 w1 w2 s0 s1 s2 b g c (frN (rootN L)) x z out = some ((List.range nn).map (rz ov ui), rz ov ui nn, 0, ()) := by
  intro k
  induction k with
  | zero =>
    intro n i x z out hi hn hx hxi hzz ho
    obtain ⟨n, rfl⟩ : ∃ m, n = m + 1 := ⟨n - 1, by omega⟩
    obtain rfl : i = nn := by omega
    rw [m92_13_succ]
    unfold c92_13
    rw [ltI_false (by omega), cond_false, hzz, ho]
  | succ k ih =>
    intro n i x z out hi hn hx hxi hzz ho
    obtain ⟨n, rfl⟩ : ∃ m, n = m + 1 := ⟨n - 1, by omega⟩
    rw [row_ok h hl hnn hle n i (by omega) c x z (ui.getD i Fr.zero) out (by rw [ho]; simp) hx hxi (hz i (by omega)) (hui i (by omega))]
    refine ih n (i + 1) _ _ _ (by omega) (by omega) (sc_mul _ _) (root_step hxi) ?_ ?_
    · rw [hzz, ← hov i (by omega)]; rfl
    · rw [ho, hzz, List.range_succ, List.map_append]; rfl
theorem m92_zero (h : Gd w0 w1 w2 s0 s1 s2 b g) (hl : Lens nn w0 w1 w2 s0 s1 s2) (hnn : nn = 2 ^ L) (hle : nn ≤ 64) (c : Fr) :
    ∀ (k n i : Nat) (x z : Fr) (out : List Fr), i + k = nn → k < n → Sc x → Cg (fv x) (rootN L ^ i) → out.length = i → (∃ p, i ≤ p ∧ p < nn ∧ fv (rowU w0 w1 w2 s0 s1 s2 b g p) = 0) →
    m92_13 N n (nn : Int) (i : Int) w0 w1 w2 s0 s1 s2 b g c (frN (rootN L)) x z out = perr 15 := by
  intro k
  induction k with
  | zero =>
    intro n i x z out hi hn hx hxi ho ⟨p, p1, p2, _⟩
    omega
  | succ k ih =>
    intro n i x z out hi hn hx hxi ho ⟨p, p1, p2, p3⟩
    obtain ⟨n, rfl⟩ : ∃ m, n = m + 1 := ⟨n - 1, by omega⟩
    by_cases hz : fv (rowU w0 w1 w2 s0 s1 s2 b g i) = 0
    · exact row_zero h hl hnn hle n i (by omega) c _ x z out ho hx hxi hz
    · obtain ⟨u, _, hu⟩ := q71_inv (N := N) (rowU_sc (w0 := w0) (w1 := w1) (w2 := w2) (s0 := s0) (s1 := s1) (s2 := s2) (b := b) (g := g) i) hz
      rw [row_ok h hl hnn hle n i (by omega) c x z u out ho hx hxi hz hu]
      have hpi : p ≠ i := fun e => hz (by rw [← e]; exact p3)
      exact ih n (i + 1) _ _ _ (by omega) (by omega) (sc_mul _ _) (root_step hxi) (by simp [ho]) ⟨p, by omega, p2, p3⟩
theorem c5_0 {M : Nat} (n : Nat) (c : Fr) : (w0.length = nn ∧ s0.length = nn → m92_5 M (n + 1) (L : Int) (nn : Int) 0 w0 w1 w2 s0 s1 s2 b g c = m92_5 M n (L : Int) (nn : Int) 1 w0 w1 w2 s0 s1 s2 b g c) ∧
    (¬ (w0.length = nn ∧ s0.length = nn) → m92_5 M (n + 1) (L : Int) (nn : Int) 0 w0 w1 w2 s0 s1 s2 b g c = perr 1) := by
  rw [m92_5_succ]
  unfold c92_5
  rw [ltI_true (by omega), cond_true, show eqI (0 : Int) ((0 : Nat) : Int) = true from rfl, cond_true, mst2]
  refine ⟨fun ⟨h1, h2⟩ => ?_, fun h => ?_⟩
  · rw [h1, h2, eqI_true rfl, Bool.not_true, cond_false, cond_false, show wr (((0 : Nat) : Int) + 1) = 1 by decide]
  · by_cases hw : w0.length = nn
    · rw [eqI_true (show (w0.length : Int) = (nn : Int) by omega), Bool.not_true, cond_false, eqI_false (show ¬ (s0.length : Int) = (nn : Int) by omega), Bool.not_false, cond_true]
      rfl
    · rw [eqI_false (show ¬ (w0.length : Int) = (nn : Int) by omega), Bool.not_false, cond_true]
      rfl
theorem c5_1 {M : Nat} (n : Nat) (c : Fr) : (w1.length = nn ∧ s1.length = nn → m92_5 M (n + 1) (L : Int) (nn : Int) 1 w0 w1 w2 s0 s1 s2 b g c = m92_5 M n (L : Int) (nn : Int) 2 w0 w1 w2 s0 s1 s2 b g c) ∧
    (¬ (w1.length = nn ∧ s1.length = nn) → m92_5 M (n + 1) (L : Int) (nn : Int) 1 w0 w1 w2 s0 s1 s2 b g c = perr 1) := by
  rw [m92_5_succ]
  unfold c92_5
  rw [ltI_true (by omega), cond_true, show eqI (1 : Int) ((0 : Nat) : Int) = false from rfl, cond_false, show eqI (1 : Int) (((0 : Nat) + (1 : Nat) : Nat) : Int) = true from rfl, cond_true, mst2]
  refine ⟨fun ⟨h1, h2⟩ => ?_, fun h => ?_⟩
  · rw [h1, h2, eqI_true rfl, Bool.not_true, cond_false, cond_false, show wr ((((0 : Nat) + (1 : Nat) : Nat) : Int) + 1) = 2 by decide]
  · by_cases hw : w1.length = nn
    · rw [eqI_true (show (w1.length : Int) = (nn : Int) by omega), Bool.not_true, cond_false, eqI_false (show ¬ (s1.length : Int) = (nn : Int) by omega), Bool.not_false, cond_true]
      rfl
    · rw [eqI_false (show ¬ (w1.length : Int) = (nn : Int) by omega), Bool.not_false, cond_true]
      rfl
theorem c5_2 {M : Nat} (n : Nat) (c : Fr) : (w2.length = nn ∧ s2.length = nn → m92_5 M (n + 1) (L : Int) (nn : Int) 2 w0 w1 w2 s0 s1 s2 b g c = m92_5 M n (L : Int) (nn : Int) 3 w0 w1 w2 s0 s1 s2 b g c) ∧
    (¬ (w2.length = nn ∧ s2.length = nn) → m92_5 M (n + 1) (L : Int) (nn : Int) 2 w0 w1 w2 s0 s1 s2 b g c = perr 1) := by
  rw [m92_5_succ]
  unfold c92_5
  rw [ltI_true (by omega), cond_true, show eqI (2 : Int) ((0 : Nat) : Int) = false from rfl, cond_false, show eqI (2 : Int) (((0 : Nat) + (1 : Nat) : Nat) : Int) = false from rfl, cond_false, show eqI (2 : Int) (((0 : Nat) + (1 : Nat) + (1 : Nat) : Nat) : Int) = true from rfl, mst2, mst2]
  refine ⟨fun ⟨h1, h2⟩ => ?_, fun h => ?_⟩
  · rw [h1, h2, eqI_true rfl, Bool.not_true, cond_false, cond_false, show wr ((((0 : Nat) + (1 : Nat) + (1 : Nat) : Nat) : Int) + 1) = 3 by decide]
  · by_cases hw : w2.length = nn
    · rw [eqI_true (show (w2.length : Int) = (nn : Int) by omega), Bool.not_true, cond_false, eqI_false (show ¬ (s2.length : Int) = (nn : Int) by omega), Bool.not_false, cond_true]
      rfl
    · rw [eqI_false (show ¬ (w2.length : Int) = (nn : Int) by omega), Bool.not_false, cond_true]
      rfl
theorem q92_run (h1 : 1 ≤ L) (h6 : L ≤ 6) (hnn : nn = 2 ^ L) :
    (¬ Lens nn w0 w1 w2 s0 s1 s2 → q92 N (L : Int) w0 w1 w2 s0 s1 s2 b g = perr 1) ∧
    (Lens nn w0 w1 w2 s0 s1 s2 → q92 N (L : Int) w0 w1 w2 s0 s1 s2 b g = m92_13 N N (nn : Int) 0 w0 w1 w2 s0 s1 s2 b g Fr.zero (frN (rootN L)) ⟨1, 0, 0, 0⟩ ⟨1, 0, 0, 0⟩ []) := by
  have hB : 2000 ≤ N := Big.h
  obtain ⟨F, hF⟩ : ∃ F, N = F + 4 := ⟨N - 4, by omega⟩
  have hq : q92 N (L : Int) w0 w1 w2 s0 s1 s2 b g = m92_5 N (F + 4) (L : Int) (nn : Int) 0 w0 w1 w2 s0 s1 s2 b g Fr.zero := by
    unfold q92
    rw [ltI_false (by omega), cond_false, ltI_false (by omega), cond_false, sh1' h6, ← hnn, leI_zero, ltI_true (by omega), mst2, mst2]
    exact congrArg (fun k => m92_5 N k (L : Int) (nn : Int) 0 w0 w1 w2 s0 s1 s2 b g Fr.zero) hF
  rw [hq]
  by_cases l0 : w0.length = nn ∧ s0.length = nn
  case neg => exact ⟨fun _ => (c5_0 (F + 3) Fr.zero).2 l0, fun h => absurd h.1 l0⟩
  rw [(c5_0 (F + 3) Fr.zero).1 l0]
  by_cases l1 : w1.length = nn ∧ s1.length = nn
  case neg => exact ⟨fun _ => (c5_1 (F + 2) Fr.zero).2 l1, fun h => absurd h.2.1 l1⟩
  rw [(c5_1 (F + 2) Fr.zero).1 l1]
  by_cases l2 : w2.length = nn ∧ s2.length = nn
  case neg => exact ⟨fun _ => (c5_2 (F + 1) Fr.zero).2 l2, fun h => absurd h.2.2 l2⟩
  rw [(c5_2 (F + 1) Fr.zero).1 l2]
  refine ⟨fun h => absurd ⟨l0, l1, l2⟩ h, fun _ => ?_⟩
  rw [m92_5_succ]
  unfold c92_5
  rw [ltI_false (by omega), cond_false, q78_eq (by omega) (by omega), q180_eq]
  simp only [bsm]
theorem q92_q91 (h1 : 1 ≤ L) (h6 : L ≤ 6) (h : Gd w0 w1 w2 s0 s1 s2 b g) : q92 N (L : Int) w0 w1 w2 s0 s1 s2 b g = q91 N (L : Int) w0 w1 w2 s0 s1 s2 b g := by
  have hB : 2000 ≤ N := Big.h
  have hle := two_pow_le h6
  have hr := q92_run (N := N) (w0 := w0) (w1 := w1) (w2 := w2) (s0 := s0) (s1 := s1) (s2 := s2) (b := b) (g := g) h1 h6 rfl
  have hx0 : Cg (fv ⟨1, 0, 0, 0⟩) (rootN L ^ 0) := Cg.of_eq (by rw [fv_one, Nat.pow_zero])
  rcases q91_eq (N := N) (s0 := s0) (s1 := s1) (s2 := s2) h1 h6 rfl h.a0 h.a1 h.a2 h.b h.g with ⟨a, e⟩ | ⟨a, ⟨p, p1, p2⟩, e⟩ | ⟨a, hz, ov, ui, _, _, hov, hui, e⟩
  · rw [e, hr.1 a]
  · rw [e, hr.2 a]
    exact m92_zero h a rfl hle Fr.zero (2 ^ L) N 0 _ _ [] (by omega) (by omega) sc_one hx0 rfl ⟨p, by omega, p1, p2⟩
  · rw [e, hr.2 a]
    exact m92_ok h a rfl hle Fr.zero ov ui hz hov hui (2 ^ L) N 0 _ _ [] (by omega) (by omega) sc_one hx0 rfl rfl
end
end Go.Proofs.Ytgimohchocjgcaa.V
