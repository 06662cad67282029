import Derived.Test.YtgimohchocjgcaaVPA4
set_option linter.unusedVariables false
set_option linter.unusedSimpArgs false
namespace Go.Proofs.Ytgimohchocjgcaa.V
section
variable {L nn : Nat} {w0 w1 w2 s0 s1 s2 : List Fr} {b g : Fr}
def perr (e : Int) : Option (List Fr × Fr × Int × Unit) := some (([], Fr.zero, e, ()))
theorem st_0 {N : Nat} [Big N] (h1 : 1 ≤ L) (h6 : L ≤ 6) (hnn : nn = 2 ^ L) (z : List Fr) (o5 : Fr) (hw : ∀ p, Sc (w0.getD p Fr.zero)) (hwl : w0.length = nn) (hsl : s0.length = nn) (hb : Sc b) (hg : Sc g) (n : Nat) (ov un : List Fr) (ho : ov.length = nn) (hu : un.length = nn) (hos : ∀ p, Sc (ov.getD p Fr.zero)) (hus : ∀ p, Sc (un.getD p Fr.zero)) :
    m91_11 N (n + 1) (L : Int) (nn : Int) 0 w0 w1 w2 s0 s1 s2 b g z o5 ov un = m91_11 N n (L : Int) (nn : Int) 1 w0 w1 w2 s0 s1 s2 b g z o5 (updF (ovF L nn b g 0 w0) nn 0 ov) (updF (unF b g w0 s0) nn 0 un) := by
  have hB : 2000 ≤ N := Big.h
  have hle : nn ≤ 64 := by rw [hnn]; exact two_pow_le h6
  rw [m91_11_succ]
  unfold c91_11
  rw [ltI_true (by omega), cond_true, show eqI (0 : Int) ((0 : Nat) : Int) = true from rfl, cond_true, mst2, hwl, hsl, eqI_true rfl, Bool.not_true, cond_false, cond_false]
  refine (m91_16_0 h1 h6 hnn 0 z o5 hw hwl hsl hb hg nn N 0 ov un (by omega) (by omega) ho hu hos hus).trans ?_
  rw [show wr ((0 : Int) + 1) = 1 by decide]
theorem ster_0 {N : Nat} [Big N] (z : List Fr) (o5 : Fr) (h : ¬ (w0.length = nn ∧ s0.length = nn)) (n : Nat) (ov un : List Fr) :
    m91_11 N (n + 1) (L : Int) (nn : Int) 0 w0 w1 w2 s0 s1 s2 b g z o5 ov un = perr 1 := by
  have hB : 2000 ≤ N := Big.h
  rw [m91_11_succ]
  unfold c91_11
  rw [ltI_true (by omega), cond_true, show eqI (0 : Int) ((0 : Nat) : Int) = true from rfl, cond_true, mst2]
  by_cases hw : w0.length = nn
  · rw [eqI_true (show (w0.length : Int) = (nn : Int) by omega), Bool.not_true, cond_false, eqI_false (show ¬ (s0.length : Int) = (nn : Int) by omega), Bool.not_false, cond_true]
    rfl
  · rw [eqI_false (show ¬ (w0.length : Int) = (nn : Int) by omega), Bool.not_false, cond_true]
    rfl
theorem st_1 {N : Nat} [Big N] (h1 : 1 ≤ L) (h6 : L ≤ 6) (hnn : nn = 2 ^ L) (z : List Fr) (o5 : Fr) (hw : ∀ p, Sc (w1.getD p Fr.zero)) (hwl : w1.length = nn) (hsl : s1.length = nn) (hb : Sc b) (hg : Sc g) (n : Nat) (ov un : List Fr) (ho : ov.length = nn) (hu : un.length = nn) (hos : ∀ p, Sc (ov.getD p Fr.zero)) (hus : ∀ p, Sc (un.getD p Fr.zero)) :
    m91_11 N (n + 1) (L : Int) (nn : Int) 1 w0 w1 w2 s0 s1 s2 b g z o5 ov un = m91_11 N n (L : Int) (nn : Int) 2 w0 w1 w2 s0 s1 s2 b g z o5 (updF (ovF L nn b g 1 w1) nn 0 ov) (updF (unF b g w1 s1) nn 0 un) := by
  have hB : 2000 ≤ N := Big.h
  have hle : nn ≤ 64 := by rw [hnn]; exact two_pow_le h6
  rw [m91_11_succ]
  unfold c91_11
  rw [ltI_true (by omega), cond_true, show eqI (1 : Int) ((0 : Nat) : Int) = false from rfl, cond_false, show eqI (1 : Int) (((0 : Nat) + (1 : Nat) : Nat) : Int) = true from rfl, cond_true, mst2, hwl, hsl, eqI_true rfl, Bool.not_true, cond_false, cond_false]
  refine (m91_16_1 h1 h6 hnn 1 z o5 hw hwl hsl hb hg nn N 0 ov un (by omega) (by omega) ho hu hos hus).trans ?_
  rw [show wr ((1 : Int) + 1) = 2 by decide]
theorem ster_1 {N : Nat} [Big N] (z : List Fr) (o5 : Fr) (h : ¬ (w1.length = nn ∧ s1.length = nn)) (n : Nat) (ov un : List Fr) :
    m91_11 N (n + 1) (L : Int) (nn : Int) 1 w0 w1 w2 s0 s1 s2 b g z o5 ov un = perr 1 := by
  have hB : 2000 ≤ N := Big.h
  rw [m91_11_succ]
  unfold c91_11
  rw [ltI_true (by omega), cond_true, show eqI (1 : Int) ((0 : Nat) : Int) = false from rfl, cond_false, show eqI (1 : Int) (((0 : Nat) + (1 : Nat) : Nat) : Int) = true from rfl, cond_true, mst2]
  by_cases hw : w1.length = nn
  · rw [eqI_true (show (w1.length : Int) = (nn : Int) by omega), Bool.not_true, cond_false, eqI_false (show ¬ (s1.length : Int) = (nn : Int) by omega), Bool.not_false, cond_true]
    rfl
  · rw [eqI_false (show ¬ (w1.length : Int) = (nn : Int) by omega), Bool.not_false, cond_true]
    rfl
theorem st_2 {N : Nat} [Big N] (h1 : 1 ≤ L) (h6 : L ≤ 6) (hnn : nn = 2 ^ L) (z : List Fr) (o5 : Fr) (hw : ∀ p, Sc (w2.getD p Fr.zero)) (hwl : w2.length = nn) (hsl : s2.length = nn) (hb : Sc b) (hg : Sc g) (n : Nat) (ov un : List Fr) (ho : ov.length = nn) (hu : un.length = nn) (hos : ∀ p, Sc (ov.getD p Fr.zero)) (hus : ∀ p, Sc (un.getD p Fr.zero)) :
    m91_11 N (n + 1) (L : Int) (nn : Int) 2 w0 w1 w2 s0 s1 s2 b g z o5 ov un = m91_11 N n (L : Int) (nn : Int) 3 w0 w1 w2 s0 s1 s2 b g z o5 (updF (ovF L nn b g 2 w2) nn 0 ov) (updF (unF b g w2 s2) nn 0 un) := by
  have hB : 2000 ≤ N := Big.h
  have hle : nn ≤ 64 := by rw [hnn]; exact two_pow_le h6
  rw [m91_11_succ]
  unfold c91_11
  rw [ltI_true (by omega), cond_true, show eqI (2 : Int) ((0 : Nat) : Int) = false from rfl, cond_false, show eqI (2 : Int) (((0 : Nat) + (1 : Nat) : Nat) : Int) = false from rfl, cond_false, show eqI (2 : Int) (((0 : Nat) + (1 : Nat) + (1 : Nat) : Nat) : Int) = true from rfl, mst2, mst2, hwl, hsl, eqI_true rfl, Bool.not_true, cond_false, cond_false]
  refine (m91_16_2 h1 h6 hnn 2 z o5 hw hwl hsl hb hg nn N 0 ov un (by omega) (by omega) ho hu hos hus).trans ?_
  rw [show wr ((2 : Int) + 1) = 3 by decide]
theorem ster_2 {N : Nat} [Big N] (z : List Fr) (o5 : Fr) (h : ¬ (w2.length = nn ∧ s2.length = nn)) (n : Nat) (ov un : List Fr) :
    m91_11 N (n + 1) (L : Int) (nn : Int) 2 w0 w1 w2 s0 s1 s2 b g z o5 ov un = perr 1 := by
  have hB : 2000 ≤ N := Big.h
  rw [m91_11_succ]
  unfold c91_11
  rw [ltI_true (by omega), cond_true, show eqI (2 : Int) ((0 : Nat) : Int) = false from rfl, cond_false, show eqI (2 : Int) (((0 : Nat) + (1 : Nat) : Nat) : Int) = false from rfl, cond_false, show eqI (2 : Int) (((0 : Nat) + (1 : Nat) + (1 : Nat) : Nat) : Int) = true from rfl, mst2, mst2]
  by_cases hw : w2.length = nn
  · rw [eqI_true (show (w2.length : Int) = (nn : Int) by omega), Bool.not_true, cond_false, eqI_false (show ¬ (s2.length : Int) = (nn : Int) by omega), Bool.not_false, cond_true]
    rfl
  · rw [eqI_false (show ¬ (w2.length : Int) = (nn : Int) by omega), Bool.not_false, cond_true]
    rfl
theorem m91_6_eq {N : Nat} [Big N] (L : Nat) (z : List Fr) (o5 : Fr) (hle : nn ≤ 64) : ∀ (k n i : Nat) (l : List Fr), i + k = nn → k < n → l.length = nn → (∀ p, Sc (l.getD p Fr.zero)) → (∀ p, p < i → l.getD p Fr.zero = ⟨1, 0, 0, 0⟩) →
    ∃ o, o.length = nn ∧ (∀ p, Sc (o.getD p Fr.zero)) ∧ (∀ p, p < nn → o.getD p Fr.zero = ⟨1, 0, 0, 0⟩) ∧ m91_6 N n (L : Int) (nn : Int) (nn : Int) (i : Int) w0 w1 w2 s0 s1 s2 b g z o5 l l = m91_11 N N (L : Int) (nn : Int) 0 w0 w1 w2 s0 s1 s2 b g z o5 o o := by
  have hB : 2000 ≤ N := Big.h
  intro k
  induction k with
  | zero =>
    intro n i l hi hn hl hs h
    obtain ⟨n, rfl⟩ : ∃ m, n = m + 1 := ⟨n - 1, by omega⟩
    refine ⟨l, hl, hs, fun p hp => h p (by omega), ?_⟩
    rw [m91_6_succ]
    unfold c91_6
    rw [ltI_false (by omega), cond_false]
  | succ k ih =>
    intro n i l hi hn hl hs h
    obtain ⟨n, rfl⟩ : ∃ m, n = m + 1 := ⟨n - 1, by omega⟩
    rw [m91_6_succ]
    unfold c91_6
    rw [ltI_true (show (i : Int) < (nn : Int) by omega), cond_true, q75_is]
    simp only [bsm]
    rw [leI_zero, ltI_true (show (i : Int) < (l.length : Int) by omega), Bool.and_self, mst2, mst2, Int.toNat_natCast, wr_add1 (by omega)]
    refine ih n (i + 1) _ (by omega) (by omega) (by rw [length_setL]; exact hl) (setL_sc hs i sc_one) fun p hp => ?_
    rw [getD_setL]
    by_cases e : p = i
    · rw [if_pos ⟨e, by omega⟩]
    · rw [if_neg (fun h => e h.1)]
      exact h p (by omega)
def rz (ov ui : List Fr) : Nat → Fr
  | 0 => ⟨1, 0, 0, 0⟩
  | i + 1 => fmul (rz ov ui i) (fmul (ov.getD i Fr.zero) (ui.getD i Fr.zero))
theorem rz_sc (ov ui : List Fr) : ∀ i, Sc (rz ov ui i)
  | 0 => sc_one
  | i + 1 => sc_mul _ _
theorem m91_1000_eq {N : Nat} [Big N] (ov ui : List Fr) (hle : nn ≤ 64) (ho : ov.length = nn) (hu : ui.length = nn) (hos : ∀ p, Sc (ov.getD p Fr.zero)) : ∀ (k n i : Nat) (z : List Fr) (x : Fr), i + (k + 1) = nn → k < n → z = (List.range i).map (rz ov ui) → x = rz ov ui i →
    m91_1000 N n (nn : Int) (i : Int) z x ov ui = some ((List.range nn).map (rz ov ui), rz ov ui nn, 0, ()) := by
  have hB : 2000 ≤ N := Big.h
  intro k
  have hN : 10 < N := by omega
  induction k with
  | zero =>
    intro n i z x hi hn hz hx
    obtain ⟨n, rfl⟩ : ∃ m, n = m + 1 := ⟨n - 1, by omega⟩
    have hzl : z.length = i := by rw [hz]; simp
    rw [m91_1000_succ]
    unfold c91_1000
    rw [leN_true (by simp [hzl]; omega), mst2, leI_zero, ltI_true (show (i : Int) < (ov.length : Int) by omega), ltI_true (show (i : Int) < (ui.length : Int) by omega), Bool.and_self, mst2, mst2, Int.toNat_natCast, mulF hN (hos i)]
    simp only [bsm]
    rw [mulF hN (by rw [hx]; exact rz_sc _ _ _)]
    simp only [bsm]
    rw [wr_add1 (by omega), ltI_false (by omega), cond_false, hz, hx]
    have e : nn = i + 1 := by omega
    rw [e, List.range_succ, List.map_append]
    rfl
  | succ k ih =>
    intro n i z x hi hn hz hx
    obtain ⟨n, rfl⟩ : ∃ m, n = m + 1 := ⟨n - 1, by omega⟩
    have hzl : z.length = i := by rw [hz]; simp
    rw [m91_1000_succ]
    unfold c91_1000
    rw [leN_true (by simp [hzl]; omega), mst2, leI_zero, ltI_true (show (i : Int) < (ov.length : Int) by omega), ltI_true (show (i : Int) < (ui.length : Int) by omega), Bool.and_self, mst2, mst2, Int.toNat_natCast, mulF hN (hos i)]
    simp only [bsm]
    rw [mulF hN (by rw [hx]; exact rz_sc _ _ _)]
    simp only [bsm]
    rw [wr_add1 (by omega), ltI_true (by omega), cond_true]
    refine ih n (i + 1) _ _ (by omega) (by omega) ?_ ?_
    · rw [hz, hx, List.range_succ, List.map_append]
      rfl
    · rw [hx]; rfl
def Lens (nn : Nat) (w0 w1 w2 s0 s1 s2 : List Fr) : Prop := (w0.length = nn ∧ s0.length = nn) ∧ (w1.length = nn ∧ s1.length = nn) ∧ (w2.length = nn ∧ s2.length = nn)
def rowO (L nn : Nat) (w0 w1 w2 : List Fr) (b g : Fr) (p : Nat) : Fr := fmul (fmul (fmul ⟨1, 0, 0, 0⟩ (ovF L nn b g 0 w0 p)) (ovF L nn b g 1 w1 p)) (ovF L nn b g 2 w2 p)
def rowU (w0 w1 w2 s0 s1 s2 : List Fr) (b g : Fr) (p : Nat) : Fr := fmul (fmul (fmul ⟨1, 0, 0, 0⟩ (unF b g w0 s0 p)) (unF b g w1 s1 p)) (unF b g w2 s2 p)
theorem q91_eq {N : Nat} [Big N] (h1 : 1 ≤ L) (h6 : L ≤ 6) (hnn : nn = 2 ^ L) (hw0 : ∀ p, Sc (w0.getD p Fr.zero)) (hw1 : ∀ p, Sc (w1.getD p Fr.zero)) (hw2 : ∀ p, Sc (w2.getD p Fr.zero)) (hb : Sc b) (hg : Sc g) :
    (¬ Lens nn w0 w1 w2 s0 s1 s2 ∧ q91 N (L : Int) w0 w1 w2 s0 s1 s2 b g = perr 1) ∨
    (Lens nn w0 w1 w2 s0 s1 s2 ∧ (∃ p, p < nn ∧ fv (rowU w0 w1 w2 s0 s1 s2 b g p) = 0) ∧ q91 N (L : Int) w0 w1 w2 s0 s1 s2 b g = perr 15) ∨
    (Lens nn w0 w1 w2 s0 s1 s2 ∧ (∀ p, p < nn → fv (rowU w0 w1 w2 s0 s1 s2 b g p) ≠ 0) ∧ ∃ ov ui, ov.length = nn ∧ ui.length = nn ∧ (∀ p, p < nn → ov.getD p Fr.zero = rowO L nn w0 w1 w2 b g p) ∧ (∀ p, p < nn → IsInv (ui.getD p Fr.zero) (rowU w0 w1 w2 s0 s1 s2 b g p)) ∧
      q91 N (L : Int) w0 w1 w2 s0 s1 s2 b g = some ((List.range nn).map (rz ov ui), rz ov ui nn, 0, ())) := by
  have hB : 2000 ≤ N := Big.h
  have hle : nn ≤ 64 := by rw [hnn]; exact two_pow_le h6
  have hp : 0 < nn := by rw [hnn]; exact two_pow_pos L
  have hN : 10 < N := by omega
  obtain ⟨o, o1, o2, o3, o4⟩ := m91_6_eq (N := N) (w0 := w0) (w1 := w1) (w2 := w2) (s0 := s0) (s1 := s1) (s2 := s2) (b := b) (g := g) L [] Fr.zero hle nn N 0 (List.replicate nn Fr.zero) (by omega) (by omega) (by simp) (fun p => by
    rw [List.getD_eq_getElem?_getD, List.getElem?_replicate]
    split <;> exact sc_zero) (fun p hp => by omega)
  obtain ⟨F, hF⟩ : ∃ F, N = F + 4 := ⟨N - 4, by omega⟩
  have hq : q91 N (L : Int) w0 w1 w2 s0 s1 s2 b g = m91_11 N (F + 4) (L : Int) (nn : Int) 0 w0 w1 w2 s0 s1 s2 b g [] Fr.zero o o := by
    unfold q91
    rw [ltI_false (by omega), cond_false, ltI_false (by omega), cond_false, sh1 h6, ← hnn, leI_zero, eqI_true rfl, Int.toNat_natCast, leN_true (by omega), Bool.and_self, Bool.and_self, mst2, mst2]
    exact o4.trans (congrArg (fun k => m91_11 N k (L : Int) (nn : Int) 0 w0 w1 w2 s0 s1 s2 b g [] Fr.zero o o) hF)
  rw [hq]
  by_cases hl0 : w0.length = nn ∧ s0.length = nn
  case neg => exact .inl ⟨fun h => hl0 h.1, ster_0 _ _ hl0 (F + 3) _ _⟩
  rw [st_0 h1 h6 hnn [] Fr.zero hw0 hl0.1 hl0.2 hb hg (F + 3) o o o1 o1 o2 o2]
  by_cases hl1 : w1.length = nn ∧ s1.length = nn
  case neg => exact .inl ⟨fun h => hl1 h.2.1, ster_1 _ _ hl1 (F + 2) _ _⟩
  rw [st_1 h1 h6 hnn [] Fr.zero hw1 hl1.1 hl1.2 hb hg (F + 2) _ _ (by rw [updF_len]; exact o1) (by rw [updF_len]; exact o1) (updF_sc _ _ _ _ o2) (updF_sc _ _ _ _ o2)]
  by_cases hl2 : w2.length = nn ∧ s2.length = nn
  case neg => exact .inl ⟨fun h => hl2 h.2.2, ster_2 _ _ hl2 (F + 1) _ _⟩
  rw [st_2 h1 h6 hnn [] Fr.zero hw2 hl2.1 hl2.2 hb hg (F + 1) _ _ (by rw [updF_len, updF_len]; exact o1) (by rw [updF_len, updF_len]; exact o1) (updF_sc _ _ _ _ (updF_sc _ _ _ _ o2)) (updF_sc _ _ _ _ (updF_sc _ _ _ _ o2))]
  right
  have hlen : Lens nn w0 w1 w2 s0 s1 s2 := ⟨hl0, hl1, hl2⟩
  generalize hov : updF (ovF L nn b g 2 w2) nn 0 (updF (ovF L nn b g 1 w1) nn 0 (updF (ovF L nn b g 0 w0) nn 0 o)) = ov
  generalize hun : updF (unF b g w2 s2) nn 0 (updF (unF b g w1 s1) nn 0 (updF (unF b g w0 s0) nn 0 o)) = un
  have ovl : ov.length = nn := by rw [← hov, updF_len, updF_len, updF_len]; exact o1
  have unl : un.length = nn := by rw [← hun, updF_len, updF_len, updF_len]; exact o1
  have ovs : ∀ p, Sc (ov.getD p Fr.zero) := by rw [← hov]; exact updF_sc _ _ _ _ (updF_sc _ _ _ _ (updF_sc _ _ _ _ o2))
  have uns : ∀ p, Sc (un.getD p Fr.zero) := by rw [← hun]; exact updF_sc _ _ _ _ (updF_sc _ _ _ _ (updF_sc _ _ _ _ o2))
  have ovg : ∀ p, p < nn → ov.getD p Fr.zero = rowO L nn w0 w1 w2 b g p := fun p hp => by
    rw [← hov, updF_get _ _ _ _ _ (by rw [updF_len, updF_len]; omega), if_pos (by omega), updF_get _ _ _ _ _ (by rw [updF_len]; omega), if_pos (by omega), updF_get _ _ _ _ _ (by omega), if_pos (by omega), o3 p hp]
    rfl
  have ung : ∀ p, p < nn → un.getD p Fr.zero = rowU w0 w1 w2 s0 s1 s2 b g p := fun p hp => by
    rw [← hun, updF_get _ _ _ _ _ (by rw [updF_len, updF_len]; omega), if_pos (by omega), updF_get _ _ _ _ _ (by rw [updF_len]; omega), if_pos (by omega), updF_get _ _ _ _ _ (by omega), if_pos (by omega), o3 p hp]
    rfl
  have hrun : m91_11 N (F + 1) (L : Int) (nn : Int) 3 w0 w1 w2 s0 s1 s2 b g [] Fr.zero ov un = c91_11 N (m91_11 N F) (L : Int) (nn : Int) 3 w0 w1 w2 s0 s1 s2 b g [] Fr.zero ov un := m91_11_succ ..
  rcases q179_eq (N := N) (l := un) (by omega) uns with ⟨⟨p, hp1, hp2⟩, h3⟩ | ⟨h2, ui, u1, u2, u3⟩
  · left
    refine ⟨hlen, ⟨p, by omega, by rw [← ung p (by omega)]; exact hp2⟩, ?_⟩
    refine hrun.trans ?_
    unfold c91_11
    rw [ltI_false (by omega), cond_false, h3]
    simp only [bsm]
    rw [eqI_false (by decide), Bool.not_false, cond_true]
    rfl
  · right
    refine ⟨hlen, fun p hp => by rw [← ung p hp]; exact h2 p (by omega), ov, ui, ovl, by omega, ovg, fun p hp => by rw [← ung p hp]; exact u2 p (by omega), ?_⟩
    refine hrun.trans ?_
    unfold c91_11
    rw [ltI_false (by omega), cond_false, u3]
    simp only [bsm]
    rw [eqI_true rfl, Bool.not_true, cond_false, q75_is]
    simp only [bsm]
    exact m91_1000_eq ov ui hle ovl (by omega) ovs (nn - 1) N 0 [] _ (by omega) (by omega) rfl rfl
end
end Go.Proofs.Ytgimohchocjgcaa.V
