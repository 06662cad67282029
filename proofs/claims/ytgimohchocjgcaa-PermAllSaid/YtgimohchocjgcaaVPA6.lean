import Derived.Test.YtgimohchocjgcaaVPA5
set_option linter.unusedVariables false
set_option linter.unusedSimpArgs false
namespace Go.Proofs.Ytgimohchocjgcaa.V
theorem q71_inv {N : Nat} [Big N] {a : Fr} (ha : Sc a) (h0 : fv a ≠ 0) : ∃ w, q71 N a = some (w, 0, ()) ∧ IsInv w a := by
  have hB : 2000 ≤ N := Big.h
  refine ⟨frN (fv a ^ (RR - 2) % RR), by rw [q71_eq (by omega) ha, if_neg h0], sc_mod _, ?_⟩
  rw [fv_mod]
  refine ((Cg.mod _).mul Cg.rfl').trans ?_
  rw [Nat.mul_comm]
  exact inv_mul (Nat.pos_of_ne_zero h0) ha
theorem q71_zero {N : Nat} [Big N] {a : Fr} (ha : Sc a) (h0 : fv a = 0) : q71 N a = some (a, 7, ()) := by
  have hB : 2000 ≤ N := Big.h
  rw [q71_eq (by omega) ha, if_pos h0]
theorem fmul_zero {x y : Fr} (hx : Sc x) (hy : Sc y) : fv (fmul x y) = 0 ↔ fv x = 0 ∨ fv y = 0 := by
  unfold fmul
  rw [fv_mod]
  constructor
  · intro h
    by_cases h1 : fv x = 0
    · exact .inl h1
    · by_cases h2 : fv y = 0
      · exact .inr h2
      · exact absurd h (mul_ne (Nat.pos_of_ne_zero h1) hx (Nat.pos_of_ne_zero h2) hy)
  · rintro (h | h)
    · rw [h, Nat.zero_mul, Nat.zero_mod]
    · rw [h, Nat.mul_zero, Nat.zero_mod]
theorem inv_prod {u v0 v1 v2 U0 U1 U2 : Nat} (h : Cg (u * (U0 * U1 * U2)) 1) (h0 : Cg (v0 * U0) 1) (h1 : Cg (v1 * U1) 1) (h2 : Cg (v2 * U2) 1) : Cg u (v0 * v1 * v2) := by
  have a : Cg (u * (v0 * U0 * (v1 * U1) * (v2 * U2))) (u * (1 * 1 * 1)) := Cg.rfl'.mul ((h0.mul h1).mul h2)
  have e : u * (v0 * U0 * (v1 * U1) * (v2 * U2)) = u * (U0 * U1 * U2) * (v0 * v1 * v2) := by ac_rfl
  rw [e, Nat.mul_one] at a
  refine a.symm.trans ((h.mul Cg.rfl').trans (Cg.of_eq (Nat.one_mul _)))
section
variable {L nn : Nat} {w0 w1 w2 s0 s1 s2 : List Fr} {b g : Fr}
theorem r92_0 {N : Nat} [Big N] {A : Int → Int → List Fr → List Fr → List Fr → List Fr → List Fr → List Fr → Fr → Fr → Fr → Fr → Fr → Fr → List Fr → Option (List Fr × Fr × Int × Unit)} (hnn : nn = 2 ^ L) (hle : nn ≤ 64) (hw : ∀ p, Sc (w0.getD p Fr.zero)) (hs : ∀ p, Sc (s0.getD p Fr.zero)) (hwl : w0.length = nn) (hsl : s0.length = nn) (hb : Sc b) (hg : Sc g) (n i : Nat) (hi : i < nn) (c r x z : Fr) (out : List Fr) (hx : Sc x) (hxi : Cg (fv x) (rootN L ^ i)) (hz : fv (unF b g w0 s0 i) ≠ 0) :
    ∃ v, IsInv v (unF b g w0 s0 i) ∧ m92_17 N A (n + 1) (nn : Int) (i : Int) 0 w0 w1 w2 s0 s1 s2 b g c r x z out = m92_17 N A n (nn : Int) (i : Int) 1 w0 w1 w2 s0 s1 s2 b g c r x (fmul z (fmul (ovF L nn b g 0 w0 i) v)) out := by
  have hB : 2000 ≤ N := Big.h
  obtain ⟨v, hv1, hv2⟩ := q71_inv (N := N) (tmF_sc _ _ _ _ : Sc (unF b g w0 s0 i)) hz
  refine ⟨v, hv2, ?_⟩
  have hN : 10 < N := by omega
  have hc : cosF 0 x = nm L (0 * nn + i) := by rw [hnn]; exact cos_nm (by omega) hx hxi
  rw [m92_17_succ]
  unfold c92_17
  rw [ltI_true (by omega), cond_true, show eqI (0 : Int) ((0 : Nat) : Int) = true from rfl, cond_true, mst2, leI_zero, ltI_true (show (i : Int) < (w0.length : Int) by omega), ltI_true (show (i : Int) < (s0.length : Int) by omega)]
  simp only [Bool.and_self, mst2]
  rw [show q183 N ((0 : Nat) : Int) x = some (nm L (0 * nn + i), ()) from by rw [← hc]; exact q183_eq hN 0 x (by omega)]
  simp only [bsm]
  rw [Int.toNat_natCast, q182_eq hN (nm_sc _ _)]
  simp only [bsm]
  rw [q181_eq hN (hw i) (sc_mul _ _)]
  simp only [bsm]
  rw [q181_eq hN (sc_add _ _) hg, q182_eq hN (hs i)]
  simp only [bsm]
  rw [q181_eq hN (hw i) (sc_mul _ _)]
  simp only [bsm]
  rw [q181_eq hN (sc_add _ _) hg]
  simp only [bsm]
  rw [show q71 N (fadd (fadd (w0.getD i Fr.zero) (fmul b (s0.getD i Fr.zero))) g) = some (v, 0, ()) from hv1]
  simp only [bsm]
  rw [eqI_true rfl, Bool.not_true, cond_false, q182_eq hN hv2.1]
  simp only [bsm]
  rw [q182_eq hN (sc_mul _ _)]
  simp only [bsm]
  rw [show wr (((0 : Nat) : Int) + 1) = 1 by decide]
  rfl
theorem z92_0 {N : Nat} [Big N] {A : Int → Int → List Fr → List Fr → List Fr → List Fr → List Fr → List Fr → Fr → Fr → Fr → Fr → Fr → Fr → List Fr → Option (List Fr × Fr × Int × Unit)} (hnn : nn = 2 ^ L) (hle : nn ≤ 64) (hw : ∀ p, Sc (w0.getD p Fr.zero)) (hs : ∀ p, Sc (s0.getD p Fr.zero)) (hwl : w0.length = nn) (hsl : s0.length = nn) (hb : Sc b) (hg : Sc g) (n i : Nat) (hi : i < nn) (c r x z : Fr) (out : List Fr) (hx : Sc x) (hxi : Cg (fv x) (rootN L ^ i)) (hz : fv (unF b g w0 s0 i) = 0) :
    m92_17 N A (n + 1) (nn : Int) (i : Int) 0 w0 w1 w2 s0 s1 s2 b g c r x z out = perr 15 := by
  have hB : 2000 ≤ N := Big.h
  have hv1 := q71_zero (N := N) (tmF_sc _ _ _ _ : Sc (unF b g w0 s0 i)) hz
  have hN : 10 < N := by omega
  have hc : cosF 0 x = nm L (0 * nn + i) := by rw [hnn]; exact cos_nm (by omega) hx hxi
  rw [m92_17_succ]
  unfold c92_17
  rw [ltI_true (by omega), cond_true, show eqI (0 : Int) ((0 : Nat) : Int) = true from rfl, cond_true, mst2, leI_zero, ltI_true (show (i : Int) < (w0.length : Int) by omega), ltI_true (show (i : Int) < (s0.length : Int) by omega)]
  simp only [Bool.and_self, mst2]
  rw [show q183 N ((0 : Nat) : Int) x = some (nm L (0 * nn + i), ()) from by rw [← hc]; exact q183_eq hN 0 x (by omega)]
  simp only [bsm]
  rw [Int.toNat_natCast, q182_eq hN (nm_sc _ _)]
  simp only [bsm]
  rw [q181_eq hN (hw i) (sc_mul _ _)]
  simp only [bsm]
  rw [q181_eq hN (sc_add _ _) hg, q182_eq hN (hs i)]
  simp only [bsm]
  rw [q181_eq hN (hw i) (sc_mul _ _)]
  simp only [bsm]
  rw [q181_eq hN (sc_add _ _) hg]
  simp only [bsm]
  rw [show q71 N (fadd (fadd (w0.getD i Fr.zero) (fmul b (s0.getD i Fr.zero))) g) = some (unF b g w0 s0 i, 7, ()) from hv1]
  simp only [bsm]
  rw [eqI_false (by decide), Bool.not_false, cond_true]
  rfl
theorem r92_1 {N : Nat} [Big N] {A : Int → Int → List Fr → List Fr → List Fr → List Fr → List Fr → List Fr → Fr → Fr → Fr → Fr → Fr → Fr → List Fr → Option (List Fr × Fr × Int × Unit)} (hnn : nn = 2 ^ L) (hle : nn ≤ 64) (hw : ∀ p, Sc (w1.getD p Fr.zero)) (hs : ∀ p, Sc (s1.getD p Fr.zero)) (hwl : w1.length = nn) (hsl : s1.length = nn) (hb : Sc b) (hg : Sc g) (n i : Nat) (hi : i < nn) (c r x z : Fr) (out : List Fr) (hx : Sc x) (hxi : Cg (fv x) (rootN L ^ i)) (hz : fv (unF b g w1 s1 i) ≠ 0) :
    ∃ v, IsInv v (unF b g w1 s1 i) ∧ m92_17 N A (n + 1) (nn : Int) (i : Int) 1 w0 w1 w2 s0 s1 s2 b g c r x z out = m92_17 N A n (nn : Int) (i : Int) 2 w0 w1 w2 s0 s1 s2 b g c r x (fmul z (fmul (ovF L nn b g 1 w1 i) v)) out := by
  have hB : 2000 ≤ N := Big.h
  obtain ⟨v, hv1, hv2⟩ := q71_inv (N := N) (tmF_sc _ _ _ _ : Sc (unF b g w1 s1 i)) hz
  refine ⟨v, hv2, ?_⟩
  have hN : 10 < N := by omega
  have hc : cosF 1 x = nm L (1 * nn + i) := by rw [hnn]; exact cos_nm (by omega) hx hxi
  rw [m92_17_succ]
  unfold c92_17
  rw [ltI_true (by omega), cond_true, show eqI (1 : Int) ((0 : Nat) : Int) = false from rfl, cond_false, show eqI (1 : Int) (((0 : Nat) + (1 : Nat) : Nat) : Int) = true from rfl, cond_true, mst2, leI_zero, ltI_true (show (i : Int) < (w1.length : Int) by omega), ltI_true (show (i : Int) < (s1.length : Int) by omega)]
  simp only [Bool.and_self, mst2]
  rw [show q183 N (((0 : Nat) + (1 : Nat) : Nat) : Int) x = some (nm L (1 * nn + i), ()) from by rw [← hc]; exact q183_eq hN 1 x (by omega)]
  simp only [bsm]
  rw [Int.toNat_natCast, q182_eq hN (nm_sc _ _)]
  simp only [bsm]
  rw [q181_eq hN (hw i) (sc_mul _ _)]
  simp only [bsm]
  rw [q181_eq hN (sc_add _ _) hg, q182_eq hN (hs i)]
  simp only [bsm]
  rw [q181_eq hN (hw i) (sc_mul _ _)]
  simp only [bsm]
  rw [q181_eq hN (sc_add _ _) hg]
  simp only [bsm]
  rw [show q71 N (fadd (fadd (w1.getD i Fr.zero) (fmul b (s1.getD i Fr.zero))) g) = some (v, 0, ()) from hv1]
  simp only [bsm]
  rw [eqI_true rfl, Bool.not_true, cond_false, q182_eq hN hv2.1]
  simp only [bsm]
  rw [q182_eq hN (sc_mul _ _)]
  simp only [bsm]
  rw [show wr ((((0 : Nat) + (1 : Nat) : Nat) : Int) + 1) = 2 by decide]
  rfl
theorem z92_1 {N : Nat} [Big N] {A : Int → Int → List Fr → List Fr → List Fr → List Fr → List Fr → List Fr → Fr → Fr → Fr → Fr → Fr → Fr → List Fr → Option (List Fr × Fr × Int × Unit)} (hnn : nn = 2 ^ L) (hle : nn ≤ 64) (hw : ∀ p, Sc (w1.getD p Fr.zero)) (hs : ∀ p, Sc (s1.getD p Fr.zero)) (hwl : w1.length = nn) (hsl : s1.length = nn) (hb : Sc b) (hg : Sc g) (n i : Nat) (hi : i < nn) (c r x z : Fr) (out : List Fr) (hx : Sc x) (hxi : Cg (fv x) (rootN L ^ i)) (hz : fv (unF b g w1 s1 i) = 0) :
    m92_17 N A (n + 1) (nn : Int) (i : Int) 1 w0 w1 w2 s0 s1 s2 b g c r x z out = perr 15 := by
  have hB : 2000 ≤ N := Big.h
  have hv1 := q71_zero (N := N) (tmF_sc _ _ _ _ : Sc (unF b g w1 s1 i)) hz
  have hN : 10 < N := by omega
  have hc : cosF 1 x = nm L (1 * nn + i) := by rw [hnn]; exact cos_nm (by omega) hx hxi
  rw [m92_17_succ]
  unfold c92_17
  rw [ltI_true (by omega), cond_true, show eqI (1 : Int) ((0 : Nat) : Int) = false from rfl, cond_false, show eqI (1 : Int) (((0 : Nat) + (1 : Nat) : Nat) : Int) = true from rfl, cond_true, mst2, leI_zero, ltI_true (show (i : Int) < (w1.length : Int) by omega), ltI_true (show (i : Int) < (s1.length : Int) by omega)]
  simp only [Bool.and_self, mst2]
  rw [show q183 N (((0 : Nat) + (1 : Nat) : Nat) : Int) x = some (nm L (1 * nn + i), ()) from by rw [← hc]; exact q183_eq hN 1 x (by omega)]
  simp only [bsm]
  rw [Int.toNat_natCast, q182_eq hN (nm_sc _ _)]
  simp only [bsm]
  rw [q181_eq hN (hw i) (sc_mul _ _)]
  simp only [bsm]
  rw [q181_eq hN (sc_add _ _) hg, q182_eq hN (hs i)]
  simp only [bsm]
  rw [q181_eq hN (hw i) (sc_mul _ _)]
  simp only [bsm]
  rw [q181_eq hN (sc_add _ _) hg]
  simp only [bsm]
  rw [show q71 N (fadd (fadd (w1.getD i Fr.zero) (fmul b (s1.getD i Fr.zero))) g) = some (unF b g w1 s1 i, 7, ()) from hv1]
  simp only [bsm]
  rw [eqI_false (by decide), Bool.not_false, cond_true]
  rfl
theorem r92_2 {N : Nat} [Big N] {A : Int → Int → List Fr → List Fr → List Fr → List Fr → List Fr → List Fr → Fr → Fr → Fr → Fr → Fr → Fr → List Fr → Option (List Fr × Fr × Int × Unit)} (hnn : nn = 2 ^ L) (hle : nn ≤ 64) (hw : ∀ p, Sc (w2.getD p Fr.zero)) (hs : ∀ p, Sc (s2.getD p Fr.zero)) (hwl : w2.length = nn) (hsl : s2.length = nn) (hb : Sc b) (hg : Sc g) (n i : Nat) (hi : i < nn) (c r x z : Fr) (out : List Fr) (hx : Sc x) (hxi : Cg (fv x) (rootN L ^ i)) (hz : fv (unF b g w2 s2 i) ≠ 0) :
    ∃ v, IsInv v (unF b g w2 s2 i) ∧ m92_17 N A (n + 1) (nn : Int) (i : Int) 2 w0 w1 w2 s0 s1 s2 b g c r x z out = m92_17 N A n (nn : Int) (i : Int) 3 w0 w1 w2 s0 s1 s2 b g c r x (fmul z (fmul (ovF L nn b g 2 w2 i) v)) out := by
  have hB : 2000 ≤ N := Big.h
  obtain ⟨v, hv1, hv2⟩ := q71_inv (N := N) (tmF_sc _ _ _ _ : Sc (unF b g w2 s2 i)) hz
  refine ⟨v, hv2, ?_⟩
  have hN : 10 < N := by omega
  have hc : cosF 2 x = nm L (2 * nn + i) := by rw [hnn]; exact cos_nm (by omega) hx hxi
  rw [m92_17_succ]
  unfold c92_17
  rw [ltI_true (by omega), cond_true, show eqI (2 : Int) ((0 : Nat) : Int) = false from rfl, cond_false, show eqI (2 : Int) (((0 : Nat) + (1 : Nat) : Nat) : Int) = false from rfl, cond_false, show eqI (2 : Int) (((0 : Nat) + (1 : Nat) + (1 : Nat) : Nat) : Int) = true from rfl, mst2, mst2, leI_zero, ltI_true (show (i : Int) < (w2.length : Int) by omega), ltI_true (show (i : Int) < (s2.length : Int) by omega)]
  simp only [Bool.and_self, mst2]
  rw [show q183 N (((0 : Nat) + (1 : Nat) + (1 : Nat) : Nat) : Int) x = some (nm L (2 * nn + i), ()) from by rw [← hc]; exact q183_eq hN 2 x (by omega)]
  simp only [bsm]
  rw [Int.toNat_natCast, q182_eq hN (nm_sc _ _)]
  simp only [bsm]
  rw [q181_eq hN (hw i) (sc_mul _ _)]
  simp only [bsm]
  rw [q181_eq hN (sc_add _ _) hg, q182_eq hN (hs i)]
  simp only [bsm]
  rw [q181_eq hN (hw i) (sc_mul _ _)]
  simp only [bsm]
  rw [q181_eq hN (sc_add _ _) hg]
  simp only [bsm]
  rw [show q71 N (fadd (fadd (w2.getD i Fr.zero) (fmul b (s2.getD i Fr.zero))) g) = some (v, 0, ()) from hv1]
  simp only [bsm]
  rw [eqI_true rfl, Bool.not_true, cond_false, q182_eq hN hv2.1]
  simp only [bsm]
  rw [q182_eq hN (sc_mul _ _)]
  simp only [bsm]
  rw [show wr ((((0 : Nat) + (1 : Nat) + (1 : Nat) : Nat) : Int) + 1) = 3 by decide]
  rfl
theorem z92_2 {N : Nat} [Big N] {A : Int → Int → List Fr → List Fr → List Fr → List Fr → List Fr → List Fr → Fr → Fr → Fr → Fr → Fr → Fr → List Fr → Option (List Fr × Fr × Int × Unit)} (hnn : nn = 2 ^ L) (hle : nn ≤ 64) (hw : ∀ p, Sc (w2.getD p Fr.zero)) (hs : ∀ p, Sc (s2.getD p Fr.zero)) (hwl : w2.length = nn) (hsl : s2.length = nn) (hb : Sc b) (hg : Sc g) (n i : Nat) (hi : i < nn) (c r x z : Fr) (out : List Fr) (hx : Sc x) (hxi : Cg (fv x) (rootN L ^ i)) (hz : fv (unF b g w2 s2 i) = 0) :
    m92_17 N A (n + 1) (nn : Int) (i : Int) 2 w0 w1 w2 s0 s1 s2 b g c r x z out = perr 15 := by
  have hB : 2000 ≤ N := Big.h
  have hv1 := q71_zero (N := N) (tmF_sc _ _ _ _ : Sc (unF b g w2 s2 i)) hz
  have hN : 10 < N := by omega
  have hc : cosF 2 x = nm L (2 * nn + i) := by rw [hnn]; exact cos_nm (by omega) hx hxi
  rw [m92_17_succ]
  unfold c92_17
  rw [ltI_true (by omega), cond_true, show eqI (2 : Int) ((0 : Nat) : Int) = false from rfl, cond_false, show eqI (2 : Int) (((0 : Nat) + (1 : Nat) : Nat) : Int) = false from rfl, cond_false, show eqI (2 : Int) (((0 : Nat) + (1 : Nat) + (1 : Nat) : Nat) : Int) = true from rfl, mst2, mst2, leI_zero, ltI_true (show (i : Int) < (w2.length : Int) by omega), ltI_true (show (i : Int) < (s2.length : Int) by omega)]
  simp only [Bool.and_self, mst2]
  rw [show q183 N (((0 : Nat) + (1 : Nat) + (1 : Nat) : Nat) : Int) x = some (nm L (2 * nn + i), ()) from by rw [← hc]; exact q183_eq hN 2 x (by omega)]
  simp only [bsm]
  rw [Int.toNat_natCast, q182_eq hN (nm_sc _ _)]
  simp only [bsm]
  rw [q181_eq hN (hw i) (sc_mul _ _)]
  simp only [bsm]
  rw [q181_eq hN (sc_add _ _) hg, q182_eq hN (hs i)]
  simp only [bsm]
  rw [q181_eq hN (hw i) (sc_mul _ _)]
  simp only [bsm]
  rw [q181_eq hN (sc_add _ _) hg]
  simp only [bsm]
  rw [show q71 N (fadd (fadd (w2.getD i Fr.zero) (fmul b (s2.getD i Fr.zero))) g) = some (unF b g w2 s2 i, 7, ()) from hv1]
  simp only [bsm]
  rw [eqI_false (by decide), Bool.not_false, cond_true]
  rfl
end
end Go.Proofs.Ytgimohchocjgcaa.V
