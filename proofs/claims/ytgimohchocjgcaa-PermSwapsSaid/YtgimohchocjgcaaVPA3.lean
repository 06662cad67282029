import Derived.Test.YtgimohchocjgcaaVPA2
import Derived.KernelRfl
set_option linter.unusedVariables false
set_option linter.unusedSimpArgs false
namespace Go.Proofs.Ytgimohchocjgcaa.V
theorem sh1 {L : Nat} (h : L ≤ 6) : shlI 1 (UInt64.toNat (u64I (L : Int))) = ((2 ^ L : Nat) : Int) := by
  have : ∀ k : Fin 7, shlI 1 (UInt64.toNat (u64I (k.val : Int))) = ((2 ^ k.val : Nat) : Int) := by decide +kernel
  exact this ⟨L, by omega⟩
theorem sh3 {L : Nat} (h : L ≤ 6) : shlI 3 (UInt64.toNat (u64I (L : Int))) = ((3 * 2 ^ L : Nat) : Int) := by
  have : ∀ k : Fin 7, shlI 3 (UInt64.toNat (u64I (k.val : Int))) = ((3 * 2 ^ k.val : Nat) : Int) := by decide +kernel
  exact this ⟨L, by omega⟩
theorem sh1' {L : Nat} (h : L ≤ 6) : shlI 1 (UInt64.toNat (UInt64.ofNat (Int.toNat (L : Int)))) = ((2 ^ L : Nat) : Int) := by
  have : ∀ k : Fin 7, shlI 1 (UInt64.toNat (UInt64.ofNat (Int.toNat (k.val : Int)))) = ((2 ^ k.val : Nat) : Int) := by decide +kernel
  exact this ⟨L, by omega⟩
theorem sh3' {L : Nat} (h : L ≤ 6) : shlI 3 (UInt64.toNat (UInt64.ofNat (Int.toNat (L : Int)))) = ((3 * 2 ^ L : Nat) : Int) := by
  have : ∀ k : Fin 7, shlI 3 (UInt64.toNat (UInt64.ofNat (Int.toNat (k.val : Int)))) = ((3 * 2 ^ k.val : Nat) : Int) := by decide +kernel
  exact this ⟨L, by omega⟩
theorem shL {L : Nat} (h : L ≤ 6) : UInt64.toNat (UInt64.ofNat (Int.toNat (L : Int))) = L := by
  have : ∀ k : Fin 7, UInt64.toNat (UInt64.ofNat (Int.toNat (k.val : Int))) = k.val := by decide +kernel
  exact this ⟨L, by omega⟩
theorem two_pow_le {L : Nat} (h : L ≤ 6) : 2 ^ L ≤ 64 := Nat.pow_le_pow_right (by decide) h
theorem two_pow_pos (L : Nat) : 0 < 2 ^ L := Nat.pow_pos (by decide)
theorem shrI_nat {x L : Nat} (h : L ≤ 6) : shrI (x : Int) L = ((x / 2 ^ L : Nat) : Int) := by
  unfold shrI
  rw [Nat.min_eq_left (by omega), Int.fdiv_eq_ediv_of_nonneg _ (Int.le_of_lt (Int.pow_pos (by decide)))]
  rfl
theorem lv_one (k : Nat) (h : k < 18446744073709551616) : lv [u64I (k : Int)] = k := by
  simp only [lv]
  rw [u64I_nat h]
  omega
theorem powF {N : Nat} [Big N] {a : Fr} (ha : Sc a) {k : Nat} (h : k < 18446744073709551616) : q72 N a [u64I (k : Int)] = some (frN (fv a ^ k % RR), ()) := by
  have hB : 2000 ≤ N := Big.h
  rw [q72_eq (e := [u64I (k : Int)]) ha (show 64 * 1 + 100 < N by omega) (show 1 < 1000 by omega), lv_one k h]
theorem powR {N : Nat} [Big N] {a : Fr} (ha : Sc a) {k : Nat} (h : k < 18446744073709551616) : q73 N a [u64I (k : Int)] = some (frN (fv a ^ k % RR), ()) := by
  have hB : 2000 ≤ N := Big.h
  rw [q73_eq (e := [u64I (k : Int)]) ha (show 64 * 1 + 100 < N by omega) (show 1 < 1000 by omega), lv_one k h]
theorem sc7 : Sc ⟨7, 0, 0, 0⟩ := by unfold Sc; decide +kernel
theorem fv7 : fv ⟨7, 0, 0, 0⟩ = 7 := by decide +kernel
theorem sc_root (L : Nat) : Sc (frN (rootN L)) := by unfold Sc; rw [fv_frN' (rootN_lt L)]; exact rootN_lt L
def nm (L x : Nat) : Fr := fmul (frN (7 ^ (x / 2 ^ L) % RR)) (frN (rootN L ^ (x % 2 ^ L) % RR))
theorem q204_eq (N : Nat) {L : Nat} (h1 : 1 ≤ L) (h6 : L ≤ 6) : q204 N (L : Int) = some (true, ()) := by
  unfold q204
  rw [leI_true (by omega), cond_true, leI_true (by omega)]
theorem q136_eq {N : Nat} [Big N] {L x : Nat} (h1 : 1 ≤ L) (h6 : L ≤ 6) (hx : x < 3 * 2 ^ L) : q136 N (L : Int) (x : Int) = some (nm L x, 0, ()) := by
  have hB : 2000 ≤ N := Big.h
  have hp := two_pow_pos L
  have hle := two_pow_le h6
  have hd : x / 2 ^ L ≤ x := Nat.div_le_self _ _
  have hm : x % 2 ^ L < 2 ^ L := Nat.mod_lt _ hp
  have e0 : eqI ((2 ^ L : Nat) : Int) 0 = false := eqI_false (by omega)
  have e9 : wr ((x / 2 ^ L : Nat) : Int) = ((x / 2 ^ L : Nat) : Int) := by
    generalize x / 2 ^ L = q at hd
    exact wr_id (by omega) (by omega)
  unfold q136
  rw [q204_eq N h1 h6]
  simp only [bsm]
  rw [Bool.not_true, cond_false, ltI_false (by omega), cond_false, sh3 h6, leI_false (by omega), cond_false, q77_eq (by omega) (by omega), q75_is]
  simp only [bsm]
  rw [sh1 h6, e0, Bool.not_false, mst2, tdiv_nat, tmod_nat, e9, powF sc7 (by omega)]
  simp only [bsm]
  rw [mst2, powF (sc_root L) (by omega)]
  simp only [bsm]
  rw [mulF (by omega) (sc_mod _), fv7, fv_frN' (rootN_lt L)]
  rfl
theorem q98_eq {N : Nat} [Big N] {L x : Nat} (h1 : 1 ≤ L) (h6 : L ≤ 6) (hx : x < 3 * 2 ^ L) : q98 N (L : Int) (x : Int) = some (nm L x, 0, ()) := by
  have hB : 2000 ≤ N := Big.h
  have hp := two_pow_pos L
  have hle := two_pow_le h6
  have hd : x / 2 ^ L ≤ x := Nat.div_le_self _ _
  have hm : x % 2 ^ L < 2 ^ L := Nat.mod_lt _ hp
  have e0 : eqI ((2 ^ L : Nat) : Int) 0 = false := eqI_false (by omega)
  unfold q98
  rw [ltI_false (by omega), cond_false, ltI_false (by omega), cond_false, ltI_false (by omega), cond_false, leI_zero, mst2, ltI_true (by omega), mst2, sh3' h6, leI_false (by omega), cond_false, q78_eq (by omega) (by omega), q173_is]
  simp only [bsm]
  rw [mst2, mst2, sh1' h6, e0, shL h6, shrI_nat h6, tmod_nat, powR sc7 (by omega)]
  simp only [bsm]
  rw [mst2, mst2, Bool.not_false, mst2, powR (sc_root L) (by omega)]
  simp only [bsm]
  rw [q190_eq (by omega) (sc_mod _), fv7, fv_frN' (rootN_lt L)]
  rfl
def tmF (w x b g : Fr) : Fr := fadd (fadd w (fmul b x)) g
theorem tmF_sc (w x b g : Fr) : Sc (tmF w x b g) := sc_add _ _
theorem q178_eq {N : Nat} (hN : 10 < N) {w x b g : Fr} (hw : Sc w) (hb : Sc b) (hg : Sc g) : q178 N w x b g = some (tmF w x b g, ()) := by
  unfold q178
  rw [mulF hN hb]
  simp only [bsm]
  rw [addF hN hw (sc_mul _ _)]
  simp only [bsm]
  rw [addF hN (sc_add _ _) hg]
  simp only [bsm]
  rfl
def pre (l : List Fr) : Nat → Nat
  | 0 => 1
  | i + 1 => pre l i * fv (l.getD i Fr.zero)
def IsInv (o x : Fr) : Prop := Sc o ∧ Cg (fv o * fv x) 1
theorem pre_zero {l : List Fr} {j : Nat} (h : fv (l.getD j Fr.zero) = 0) : ∀ i, j < i → pre l i = 0
  | 0, hi => by omega
  | i + 1, hi => by
    unfold pre
    by_cases e : j = i
    · rw [← e, h, Nat.mul_zero]
    · rw [pre_zero h i (by omega), Nat.zero_mul]
theorem pre_ne {l : List Fr} (hs : ∀ i, Sc (l.getD i Fr.zero)) : ∀ i, (∀ j, j < i → fv (l.getD j Fr.zero) ≠ 0) → pre l i % RR ≠ 0
  | 0, _ => by unfold pre; decide
  | i + 1, h => by
    have h1 := pre_ne hs i (fun j hj => h j (by omega))
    have h2 := h i (by omega)
    unfold pre
    rw [← Nat.mod_mul_mod]
    exact mul_ne (by omega) (mod_lt_RR _) (by omega) (hs i)
theorem m179_4_eq {N : Nat} (hN : 10 < N) (l : List Fr) (hl : l.length < 1000) (hs : ∀ i, Sc (l.getD i Fr.zero)) : ∀ (k m i : Nat) (ah : List Fr), i + k = l.length → k < m → ah.length = l.length + 1 →
    (∀ j, j ≤ i → Sc (ah.getD j Fr.zero) ∧ Cg (fv (ah.getD j Fr.zero)) (pre l j)) →
    ∃ ah' m', ah'.length = l.length + 1 ∧ (∀ j, j ≤ l.length → Sc (ah'.getD j Fr.zero) ∧ Cg (fv (ah'.getD j Fr.zero)) (pre l j)) ∧ m179_4 N m l l (l.length : Int) (i : Int) ah = m179_4 N (m' + 1) l l (l.length : Int) (l.length : Int) ah' := by
  intro k
  induction k with
  | zero =>
    intro m i ah hi hm ha h
    obtain ⟨m, rfl⟩ : ∃ q, m = q + 1 := ⟨m - 1, by omega⟩
    obtain rfl : i = l.length := by omega
    exact ⟨ah, m, ha, h, rfl⟩
  | succ k ih =>
    intro m i ah hi hm ha h
    obtain ⟨m, rfl⟩ : ∃ q, m = q + 1 := ⟨m - 1, by omega⟩
    obtain ⟨g1, g2⟩ := h i (Nat.le_refl _)
    rw [m179_4_succ]
    unfold c179_4
    rw [ltI_true (show (i : Int) < (l.length : Int) by omega), cond_true, leI_zero, ltI_true (show (i : Int) < (ah.length : Int) by omega), Bool.and_self, mst2, mst2, Int.toNat_natCast, mulF hN g1]
    simp only [bsm]
    rw [wr_add1 (by omega), leI_zero, ltI_true (by omega), Bool.and_self, mst2, Int.toNat_natCast]
    refine ih m (i + 1) _ (by omega) (by omega) (by rw [length_setL]; exact ha) fun j hj => ?_
    rw [getD_setL]
    by_cases e : j = i + 1
    · rw [if_pos ⟨e, by omega⟩, e]
      exact ⟨sc_mul _ _, (fv_mul _ _).trans (g2.mul Cg.rfl')⟩
    · rw [if_neg (fun h => e h.1)]
      exact h j (by omega)
theorem m179_1000_eq {N : Nat} (hN : 10 < N) (l ah : List Fr) (hl : l.length < 1000) (hs : ∀ i, Sc (l.getD i Fr.zero)) (ha : ah.length = l.length + 1) (hah : ∀ j, j ≤ l.length → Sc (ah.getD j Fr.zero) ∧ Cg (fv (ah.getD j Fr.zero)) (pre l j)) :
    ∀ (i m : Nat) (k : Fr) (out : List Fr), i < m → i ≤ l.length → Sc k → Cg (fv k * pre l i) 1 → out.length = l.length → (∀ j, i ≤ j → j < l.length → IsInv (out.getD j Fr.zero) (l.getD j Fr.zero)) →
    ∃ out', out'.length = l.length ∧ (∀ j, j < l.length → IsInv (out'.getD j Fr.zero) (l.getD j Fr.zero)) ∧ m179_1000 N m l (i : Int) ah k out = some (out', 0, ()) := by
  intro i
  induction i with
  | zero =>
    intro m k out hm hi hk hc ho h
    obtain ⟨m, rfl⟩ : ∃ q, m = q + 1 := ⟨m - 1, by omega⟩
    refine ⟨out, ho, fun j hj => h j (by omega) hj, ?_⟩
    rw [m179_1000_succ]
    unfold c179_1000
    rw [show wr (((0 : Nat) : Int) - 1) = -1 by decide, ltI_true (by omega), cond_true]
  | succ i ih =>
    intro m k out hm hi hk hc ho h
    obtain ⟨m, rfl⟩ : ∃ q, m = q + 1 := ⟨m - 1, by omega⟩
    obtain ⟨g1, g2⟩ := hah i (by omega)
    rw [m179_1000_succ]
    unfold c179_1000
    rw [wr_sub1 (by omega), ltI_false (by omega), cond_false, leI_zero, ltI_true (show (i : Int) < (ah.length : Int) by omega), Bool.and_self, mst2, Int.toNat_natCast, mulF hN hk]
    simp only [bsm]
    rw [ltI_true (show (i : Int) < (out.length : Int) by omega), ltI_true (show (i : Int) < (l.length : Int) by omega), Bool.and_self, mst2, mst2, mulF hN hk]
    simp only [bsm]
    refine ih m _ _ (by omega) (by omega) (sc_mul _ _) ?_ (by rw [length_setL]; exact ho) fun j hj1 hj2 => ?_
    · refine ((fv_mul _ _).mul Cg.rfl').trans ?_
      rw [Nat.mul_assoc, Nat.mul_comm (fv (l.getD i Fr.zero))]
      exact hc
    · rw [getD_setL]
      by_cases e : j = i
      · rw [if_pos ⟨e, by omega⟩, e]
        refine ⟨sc_mul _ _, ((fv_mul _ _).mul Cg.rfl').trans ?_⟩
        rw [Nat.mul_assoc]
        exact (Cg.rfl'.mul (g2.mul Cg.rfl')).trans hc
      · rw [if_neg (fun h => e h.1)]
        exact h j (by omega) hj2
theorem q179_eq {N : Nat} [Big N] {l : List Fr} (hl : l.length < 1000) (hs : ∀ i, Sc (l.getD i Fr.zero)) :
    ((∃ j, j < l.length ∧ fv (l.getD j Fr.zero) = 0) ∧ q179 N l = some ([], 7, ())) ∨
    ((∀ j, j < l.length → fv (l.getD j Fr.zero) ≠ 0) ∧ ∃ out, out.length = l.length ∧ (∀ j, j < l.length → IsInv (out.getD j Fr.zero) (l.getD j Fr.zero)) ∧ q179 N l = some (out, 0, ())) := by
  have hB : 2000 ≤ N := Big.h
  have hN : 10 < N := by omega
  have hq : q179 N l = m179_4 N N l l (l.length : Int) ((0 : Nat) : Int) (setL (List.replicate (l.length + 1) Fr.zero) 0 ⟨1, 0, 0, 0⟩) := by
    unfold q179
    rw [wr_add1 (by omega), leI_zero, eqI_true rfl, Int.toNat_natCast, leN_true (by omega), Bool.and_self, Bool.and_self, mst2, q75_is]
    simp only [bsm]
    rw [ltI_true (by simp), mst2]
    rfl
  have h0 : ∀ j, j ≤ 0 → Sc ((setL (List.replicate (l.length + 1) Fr.zero) 0 ⟨1, 0, 0, 0⟩).getD j Fr.zero) ∧ Cg (fv ((setL (List.replicate (l.length + 1) Fr.zero) 0 ⟨1, 0, 0, 0⟩).getD j Fr.zero)) (pre l j) := by
    intro j hj
    obtain rfl : j = 0 := by omega
    rw [getD_setL, if_pos ⟨rfl, by simp⟩]
    exact ⟨sc_one, Cg.of_eq fv_one⟩
  obtain ⟨ah, m, h1, h2, h3⟩ := m179_4_eq hN l hl hs l.length N 0 _ (by omega) (by omega) (by rw [length_setL, List.length_replicate]) h0
  obtain ⟨g1, g2⟩ := h2 l.length (Nat.le_refl _)
  have hrun : q179 N l = c179_4 N (m179_4 N m) l l (l.length : Int) (l.length : Int) ah := hq.trans (h3.trans (m179_4_succ _ _ _ _ _ _ _))
  have g3 : fv (ah.getD l.length Fr.zero) = pre l l.length % RR := g2.lt g1
  by_cases hz : ∃ j, j < l.length ∧ fv (l.getD j Fr.zero) = 0
  · left
    refine ⟨hz, ?_⟩
    obtain ⟨j, hj, hj0⟩ := hz
    rw [pre_zero hj0 _ hj, Nat.zero_mod] at g3
    rw [hrun]
    unfold c179_4
    rw [ltI_false (by omega), cond_false, ltI_true (by omega), mst2, Int.toNat_natCast, q70_zero g1 g3]
    simp only [bsm]
    rw [eqI_false (by decide), Bool.not_false, cond_true]
  · right
    have hne : ∀ j, j < l.length → fv (l.getD j Fr.zero) ≠ 0 := fun j hj h => hz ⟨j, hj, h⟩
    refine ⟨hne, ?_⟩
    have hpn := pre_ne hs l.length hne
    obtain ⟨w, w1, w2, w3⟩ := q70_inv (N := N) g1 (by rw [g3]; exact hpn)
    have hc : Cg (fv w * pre l l.length) 1 := (Cg.rfl'.mul g2.symm).trans (by unfold Cg; rw [w3]; decide)
    obtain ⟨out, o1, o2, o3⟩ := m179_1000_eq hN l ah hl hs h1 h2 l.length N w (List.replicate l.length Fr.zero) (by omega) (Nat.le_refl _) w2 hc (by simp) (fun j hj1 hj2 => by omega)
    refine ⟨out, o1, o2, ?_⟩
    rw [hrun]
    unfold c179_4
    rw [ltI_false (by omega), cond_false, ltI_true (by omega), mst2, Int.toNat_natCast, w1]
    simp only [bsm]
    rw [eqI_true rfl, Bool.not_true, cond_false, eqI_true rfl, leN_true (by omega), Bool.and_self, mst2]
    exact o3
end Go.Proofs.Ytgimohchocjgcaa.V
