import Derived.Test.YtgimohchocjgcaaVWA2
set_option linter.unusedVariables false
set_option linter.unusedSimpArgs false
namespace Go.Proofs.Ytgimohchocjgcaa.V
def bRow : Row := Row.mk Fr.zero Fr.zero Fr.zero Fr.zero Fr.zero Fr.zero Fr.zero Fr.zero (0 : Int) (-1 : Int) (1 : Int)
theorem b134 : q134 2000 0 2 [bRow] [Pr.mk 1 0] = some ([0, 0], ()) := by kernel_rfl
theorem b131 : q131 2000 0 2 [bRow] [Pr.mk 1 0] 1 = some (([4, 1], [2, 3], [0, 5], ()), 0, ()) := by kernel_rfl
theorem nm10 : nm 1 0 = ⟨1, 0, 0, 0⟩ := by
  refine sc_eq (nm_sc _ _) sc_one (Cg.of_eq ?_)
  unfold nm
  rw [show fmul (frN (7 ^ (0 / 2 ^ 1) % RR)) (frN (rootN 1 ^ (0 % 2 ^ 1) % RR)) = frN ((7 ^ (0 / 2 ^ 1) % RR) * (rootN 1 ^ (0 % 2 ^ 1) % RR) % RR) by unfold fmul; rw [fv_mod, fv_mod], fv_mod, fv_one, show (0 : Nat) % 2 ^ 1 = 0 from rfl, show (0 : Nat) / 2 ^ 1 = 0 from rfl, Nat.pow_zero, Nat.pow_zero]
  decide +kernel
theorem wbegun : q128 2000 = some (true, ()) := by
  have h : q136 2000 1 0 = some (nm 1 0, 0, ()) := q136_eq (L := 1) (x := 0) (by omega) (by omega) (by omega)
  unfold q128
  refine (congrArg (fun o => Option.bind o _) b134).trans ?_
  simp only [bsm]
  refine (congrArg (fun o => Option.bind o _) b131).trans ?_
  simp only [bsm]
  rw [h, nm10]
  simp only [bsm]
  rfl
def Named (log cell : Int) (r : Fr × Int × Unit) : Prop :=
  (r.1 = Fr.zero ∧ r.2.1 = 1) ∨ ∃ L x : Nat, log = (L : Int) ∧ cell = (x : Int) ∧ 1 ≤ L ∧ L ≤ 6 ∧ x < 3 * 2 ^ L ∧ r.1 = nm L x ∧ r.2.1 = 0
theorem q204_false {log : Int} (h : ¬ (1 ≤ log ∧ log ≤ 6)) : q204 2000 log = some (false, ()) := by
  unfold q204
  by_cases h1 : 1 ≤ log
  · rw [leI_true h1, cond_true, leI_false (by omega)]
  · rw [leI_false h1, cond_false]
theorem names (log cell : Int) : ∃ r, q136 2000 log cell = some r ∧ q98 2000 log cell = some r ∧ Named log cell r := by
  by_cases hl : 1 ≤ log ∧ log ≤ 6
  case neg =>
    refine ⟨(Fr.zero, 1, ()), ?_, ?_, .inl ⟨rfl, rfl⟩⟩
    · unfold q136
      rw [q204_false hl]
      simp only [bsm]
      rw [Bool.not_false, cond_true]
    · unfold q98
      by_cases h1 : log < 1
      · rw [ltI_true h1, cond_true]
      · rw [ltI_false h1, cond_false, ltI_true (by omega), cond_true]
  obtain ⟨L, rfl⟩ : ∃ L : Nat, log = (L : Int) := ⟨log.toNat, by omega⟩
  have h1 : 1 ≤ L := by omega
  have h6 : L ≤ 6 := by omega
  by_cases hc : cell < 0
  · refine ⟨(Fr.zero, 1, ()), ?_, ?_, .inl ⟨rfl, rfl⟩⟩
    · unfold q136
      rw [q204_eq 2000 h1 h6]
      simp only [bsm]
      rw [Bool.not_true, cond_false, ltI_true hc, cond_true]
    · unfold q98
      rw [ltI_false (by omega), cond_false, ltI_false (by omega), cond_false, ltI_true hc, cond_true]
  obtain ⟨x, rfl⟩ : ∃ x : Nat, cell = (x : Int) := ⟨cell.toNat, by omega⟩
  by_cases hx : x < 3 * 2 ^ L
  · exact ⟨_, q136_eq h1 h6 hx, q98_eq h1 h6 hx, .inr ⟨L, x, rfl, rfl, h1, h6, hx, rfl, rfl⟩⟩
  · refine ⟨(Fr.zero, 1, ()), ?_, ?_, .inl ⟨rfl, rfl⟩⟩
    · unfold q136
      rw [q204_eq 2000 h1 h6]
      simp only [bsm]
      rw [Bool.not_true, cond_false, ltI_false hc, cond_false, sh3 h6, leI_true (by omega), cond_true]
    · unfold q98
      rw [ltI_false (by omega), cond_false, ltI_false (by omega), cond_false, ltI_false hc, cond_false, leI_zero, mst2, ltI_true (by omega), mst2, sh3' h6, leI_true (by omega), cond_true]
theorem nm_pow (L x : Nat) : Cg (fv (nm L x)) (7 ^ (x / 2 ^ L + (RR - 1) / 2 ^ L * (x % 2 ^ L))) := by
  unfold nm
  refine (fv_mul _ _).trans ?_
  rw [fv_mod, fv_mod, Nat.pow_add, Nat.pow_mul]
  refine (Cg.mod _).mul ((Cg.mod _).trans (Cg.pow ?_ _))
  rw [rootN_eq]
  exact Cg.mod _
theorem big_step {L : Nat} (h6 : L ≤ 6) : 3 < (RR - 1) / 2 ^ L ∧ 2 ^ L * ((RR - 1) / 2 ^ L) = RR - 1 := by
  have : ∀ k : Fin 7, 3 < (RR - 1) / 2 ^ k.val ∧ 2 ^ k.val * ((RR - 1) / 2 ^ k.val) = RR - 1 := by decide +kernel
  exact this ⟨L, by omega⟩
theorem nm_inj {L x y : Nat} (h6 : L ≤ 6) (hx : x < 3 * 2 ^ L) (hy : y < 3 * 2 ^ L) (h : nm L x = nm L y) : x = y := by
  have hp := two_pow_pos L
  obtain ⟨hk, hm⟩ := big_step h6
  have e : Cg (7 ^ (x / 2 ^ L + (RR - 1) / 2 ^ L * (x % 2 ^ L))) (7 ^ (y / 2 ^ L + (RR - 1) / 2 ^ L * (y % 2 ^ L))) := by
    refine (nm_pow L x).symm.trans ?_
    rw [h]
    exact nm_pow L y
  have xa : x / 2 ^ L < 3 := (Nat.div_lt_iff_lt_mul hp).2 hx
  have ya : y / 2 ^ L < 3 := (Nat.div_lt_iff_lt_mul hp).2 hy
  have xb : x % 2 ^ L < 2 ^ L := Nat.mod_lt _ hp
  have yb : y % 2 ^ L < 2 ^ L := Nat.mod_lt _ hp
  have xd := Nat.div_add_mod x (2 ^ L)
  have yd := Nat.div_add_mod y (2 ^ L)
  generalize hK : (RR - 1) / 2 ^ L = K at *
  have bound : ∀ b, b < 2 ^ L → K * b + K ≤ RR - 1 := fun b hb => by
    rw [← hm, Nat.mul_comm (2 ^ L), ← Nat.mul_succ]
    exact Nat.mul_le_mul_left _ hb
  have b1 := bound _ xb
  have b2 := bound _ yb
  have key : x / 2 ^ L + K * (x % 2 ^ L) = y / 2 ^ L + K * (y % 2 ^ L) := by
    rcases Nat.lt_trichotomy (x / 2 ^ L + K * (x % 2 ^ L)) (y / 2 ^ L + K * (y % 2 ^ L)) with hlt | heq | hgt
    · exact absurd e (inj7 hlt (by omega))
    · exact heq
    · exact absurd e.symm (inj7 hgt (by omega))
  have hdiv : ∀ a b : Nat, a < 3 → (a + K * b) / K = b := fun a b ha => by
    rw [Nat.add_mul_div_left _ _ (by omega), Nat.div_eq_of_lt (by omega), Nat.zero_add]
  have e2 : x % 2 ^ L = y % 2 ^ L := by
    rw [← hdiv (x / 2 ^ L) (x % 2 ^ L) xa, key, hdiv _ _ ya]
  have e1 : x / 2 ^ L = y / 2 ^ L := by
    rw [e2] at key
    omega
  rw [← xd, ← yd, e1, e2]
theorem wire_names_plain (log cell other : Int) : q34 2000 log cell other = some (true, ()) := by
  have hN : 10 < 2000 := by omega
  obtain ⟨⟨a, e, _⟩, a1, a2, a3⟩ := names log cell
  obtain ⟨⟨c, g, _⟩, c1, c2, c3⟩ := names log other
  unfold q34
  rw [wbegun]
  simp only [bsm]
  rw [Bool.not_true, cond_false, a1, a2, c1]
  simp only [bsm]
  have hsc : Sc a := by
    rcases a3 with ⟨h, _⟩ | ⟨L, x, _, _, _, _, _, h, _⟩
    · have h' : a = Fr.zero := h
      rw [h']; exact sc_zero
    · have h' : a = nm L x := h
      rw [h']; exact nm_sc _ _
  have hs : (some ((decide (fv a < RR), ()) : Bool × Unit)) = some (true, ()) := by rw [decide_eq_true (show fv a < RR from hsc)]
  rw [eqF_self, cond_true, eqI_true rfl, cond_true, q69_eq hN]
  simp only [bsm]
  by_cases he : e = 0
  · rw [eqI_true he, Bool.not_true, cond_false]
    by_cases hg : g = 0
    · rw [eqI_true hg, Bool.not_true, cond_false]
      rcases a3 with ⟨_, h⟩ | ⟨L, x, l1, l2, l3, l4, l5, l6, l7⟩
      · exact absurd (show (1 : Int) = 0 from (show e = 1 from h) ▸ he) (by decide)
      rcases c3 with ⟨_, h⟩ | ⟨M, y, m1, m2, m3, m4, m5, m6, m7⟩
      · exact absurd (show (1 : Int) = 0 from (show g = 1 from h) ▸ hg) (by decide)
      have l6' : a = nm L x := l6
      have m6' : c = nm M y := m6
      have hLM : L = M := by omega
      subst hLM
      have hb : (eqF a c == eqI cell other) = true := by
        by_cases hxy : x = y
        · rw [l6', m6', hxy, eqF_self, eqI_true (by rw [l2, m2, hxy])]
          rfl
        · rw [eqF_false (fun h => hxy (nm_inj l4 l5 m5 (by rw [← l6', ← m6']; exact h))), eqI_false (by omega)]
          rfl
      rw [hb, cond_true, hs]
    · rw [eqI_false hg, Bool.not_false, cond_true, hs]
  · rw [eqI_false he, Bool.not_false, cond_true, hs]
end Go.Proofs.Ytgimohchocjgcaa.V
