import Derived.Test.YtgimohchocjgcaaVWB11
import Derived.KernelRfl
set_option linter.unusedVariables false
set_option linter.unusedSimpArgs false
namespace Go.Proofs.Ytgimohchocjgcaa.V
theorem wr_nat {q : Nat} (h : q < 9223372036854775807) : wr (q : Int) = (q : Int) := wr_id (by omega) (by omega)
theorem q189_eq {N L z : Nat} (c0 v1 : Int) (rows : List Row) (S : List Pr) (h6 : L ≤ 6) (hz : z < 3 * 2 ^ L) : q189 N c0 v1 rows S (L : Int) (z : Int) = some (varC rows (2 ^ L) z, ()) := by
  have hp := two_pow_pos L
  have hle := two_pow_le h6
  have hm : z % 2 ^ L < 2 ^ L := Nat.mod_lt _ hp
  have hq : z / 2 ^ L < 3 := Nat.div_lt_of_lt_mul (by omega)
  have hd : z / 2 ^ L ≤ z := Nat.div_le_self _ _
  unfold q189 varC
  rw [leI_zero, ltI_true (by omega : (L : Int) < 18446744073709551616), sh1' h6, eqI_false (by omega : ¬ ((2 ^ L : Nat) : Int) = 0), tmod_nat, tdiv_nat, wr_nat (Nat.lt_of_le_of_lt hd (by omega)), Int.toNat_natCast, leI_zero]
  simp only [Bool.not_false, mst2]
  by_cases h : rows.length ≤ z % 2 ^ L
  · rw [leI_true (by omega), cond_true, if_pos h]
  · rw [leI_false (by omega), cond_false, if_neg h, ltI_true (by omega), show (true && true) = true from rfl, mst2]
    obtain ⟨q, hqq⟩ : ∃ q, z / 2 ^ L = q := ⟨_, rfl⟩
    rw [hqq] at hq
    rw [hqq]
    obtain rfl | rfl | rfl : q = 0 ∨ q = 1 ∨ q = 2 := by omega
    · rfl
    · rfl
    · rfl
def ap (m q : Nat) (y : Int) (o : List Int) : List Int := if q = m then o ++ [y] else o
def LenP (n x : Nat) (o0 o1 o2 : List Int) : Prop := o0.length = min x n ∧ o1.length = min (x - n) n ∧ o2.length = x - 2 * n
theorem LenP.ap {n x : Nat} {y : Int} {o0 o1 o2 : List Int} (h : LenP n x o0 o1 o2) (hx : x < 3 * n) : LenP n (x + 1) (ap 0 (x / n) y o0) (ap 1 (x / n) y o1) (ap 2 (x / n) y o2) := by
  obtain ⟨h0, h1, h2⟩ := h
  have hd := Nat.div_add_mod x n
  have hm : x % n < n := Nat.mod_lt _ (by omega)
  have hq : x / n < 3 := Nat.div_lt_of_lt_mul (by omega)
  obtain ⟨q, hqq⟩ : ∃ q, x / n = q := ⟨_, rfl⟩
  rw [hqq] at hq hd
  rw [hqq]
  obtain rfl | rfl | rfl : q = 0 ∨ q = 1 ∨ q = 2 := by omega
  · refine ⟨?_, ?_, ?_⟩
    · show (o0 ++ [y]).length = _
      rw [List.length_append, List.length_singleton, h0]; omega
    · show o1.length = _
      rw [h1]; omega
    · show o2.length = _
      rw [h2]; omega
  · refine ⟨?_, ?_, ?_⟩
    · show o0.length = _
      rw [h0]; omega
    · show (o1 ++ [y]).length = _
      rw [List.length_append, List.length_singleton, h1]; omega
    · show o2.length = _
      rw [h2]; omega
  · refine ⟨?_, ?_, ?_⟩
    · show o0.length = _
      rw [h0]; omega
    · show o1.length = _
      rw [h1]; omega
    · show (o2 ++ [y]).length = _
      rw [List.length_append, List.length_singleton, h2]; omega
theorem getD_app {l : List Int} {y : Int} {i : Nat} (h : i < l.length) : (l ++ [y]).getD i 0 = l.getD i 0 := by
  simp [List.getD_eq_getElem?_getD, List.getElem?_append_left h]
theorem getD_last {l : List Int} {y : Int} : (l ++ [y]).getD l.length 0 = y := by
  simp [List.getD_eq_getElem?_getD]
theorem oG_ap {n x : Nat} {y : Int} {o0 o1 o2 : List Int} (h : LenP n x o0 o1 o2) (hx : x < 3 * n) (z : Nat) (hz : z ≤ x) :
    oG n (ap 0 (x / n) y o0) (ap 1 (x / n) y o1) (ap 2 (x / n) y o2) z = if z = x then y else oG n o0 o1 o2 z := by
  obtain ⟨h0, h1, h2⟩ := h
  have hd := Nat.div_add_mod x n
  have hm : x % n < n := Nat.mod_lt _ (by omega)
  have hq : x / n < 3 := Nat.div_lt_of_lt_mul (by omega)
  have hd' := Nat.div_add_mod z n
  have hm' : z % n < n := Nat.mod_lt _ (by omega)
  have hq' : z / n < 3 := Nat.div_lt_of_lt_mul (by omega)
  by_cases e : z = x
  · subst e
    rw [if_pos rfl]
    unfold oG
    obtain ⟨q, hqq⟩ : ∃ q, z / n = q := ⟨_, rfl⟩
    obtain ⟨m, hmm⟩ : ∃ m, z % n = m := ⟨_, rfl⟩
    rw [hqq] at hq hd
    rw [hmm] at hm hd
    rw [hqq, hmm]
    obtain rfl | rfl | rfl : q = 0 ∨ q = 1 ∨ q = 2 := by omega
    · show (o0 ++ [y]).getD m 0 = y
      rw [show m = o0.length by omega]; exact getD_last
    · show (o1 ++ [y]).getD m 0 = y
      rw [show m = o1.length by omega]; exact getD_last
    · show (o2 ++ [y]).getD m 0 = y
      rw [show m = o2.length by omega]; exact getD_last
  · rw [if_neg e]
    unfold oG
    obtain ⟨q, hqq⟩ : ∃ q, x / n = q := ⟨_, rfl⟩
    obtain ⟨q', hqq'⟩ : ∃ q, z / n = q := ⟨_, rfl⟩
    obtain ⟨m, hmm⟩ : ∃ m, z % n = m := ⟨_, rfl⟩
    obtain ⟨m', hmm'⟩ : ∃ m, x % n = m := ⟨_, rfl⟩
    rw [hqq, hmm'] at hd
    rw [hqq] at hq
    rw [hmm'] at hm
    rw [hqq', hmm] at hd'
    rw [hqq'] at hq'
    rw [hmm] at hm'
    rw [hqq, hqq', hmm]
    obtain rfl | rfl | rfl : q = 0 ∨ q = 1 ∨ q = 2 := by omega
    · obtain rfl : q' = 0 := by
        obtain rfl | rfl | rfl : q' = 0 ∨ q' = 1 ∨ q' = 2 := by omega
        · rfl
        · omega
        · omega
      show (o0 ++ [y]).getD m 0 = o0.getD m 0
      exact getD_app (by omega)
    · obtain rfl | rfl | rfl : q' = 0 ∨ q' = 1 ∨ q' = 2 := by omega
      · rfl
      · show (o1 ++ [y]).getD m 0 = o1.getD m 0
        exact getD_app (by omega)
      · omega
    · obtain rfl | rfl | rfl : q' = 0 ∨ q' = 1 ∨ q' = 2 := by omega
      · rfl
      · rfl
      · show (o2 ++ [y]).getD m 0 = o2.getD m 0
        exact getD_app (by omega)
theorem var_in {cl : List Int} {rows : List Row} {n V : Nat} (G : Ground cl rows n V) (z : Nat) : varC rows n z < (V : Int) := by
  unfold varC
  split
  · omega
  · rename_i h; exact (G.vars _ (row_in (by omega)) _).2
theorem kC_none {cl : List Int} {rows : List Row} {n z : Nat} (h : varC rows n z < 0) : kC cl rows n z = -1 := by unfold kC; rw [if_pos h]
theorem kC_some {cl : List Int} {rows : List Row} {n z : Nat} (h : ¬ varC rows n z < 0) : kC cl rows n z = cl.getD (varC rows n z).toNat 0 := by unfold kC; rw [if_neg h]
theorem search_run {N L V x : Nat} {A : Int → Int → Int → Int → Int → (List Row) → (List Pr) → (List Int) → (List Int) → (List Int) → (List Int) → (List Int) → (List Int) → (List Int) → Option ((List Int × List Int × List Int × Unit) × Int × Unit)} {c0 v1 : Int} {rows : List Row} {S : List Pr} {cl x4 x5 x6 o0 o1 o2 : List Int}
    (G : Ground cl rows (2 ^ L) V) (h6 : L ≤ 6) (hx : x < 3 * 2 ^ L) (hl : LenP (2 ^ L) x o0 o1 o2) :
    ∀ (m d f : Nat), d + m = 3 * 2 ^ L → 1 ≤ d → (∀ e, 1 ≤ e → e < d → kC cl rows (2 ^ L) ((x + e) % (3 * 2 ^ L)) ≠ kC cl rows (2 ^ L) x) → m < f →
    ∃ y : Nat, Follows (kC cl rows (2 ^ L)) (3 * 2 ^ L) x y ∧ m132_12 N A f (L : Int) ((2 ^ L : Nat) : Int) (x : Int) (varC rows (2 ^ L) x) (x : Int) (d : Int) c0 v1 rows S cl x4 x5 x6 o0 o1 o2 =
      A (L : Int) ((2 ^ L : Nat) : Int) ((x + 1 : Nat) : Int) c0 v1 rows S cl x4 x5 x6 (ap 0 (x / 2 ^ L) (y : Int) o0) (ap 1 (x / 2 ^ L) (y : Int) o1) (ap 2 (x / 2 ^ L) (y : Int) o2) := by
  have hp := two_pow_pos L
  have hle := two_pow_le h6
  have hq : x / 2 ^ L < 3 := Nat.div_lt_of_lt_mul (by omega)
  have hqd : x / 2 ^ L ≤ x := Nat.div_le_self _ _
  obtain ⟨l0, l1, l2⟩ := hl
  have w3 : wr (3 * ((2 ^ L : Nat) : Int)) = ((3 * 2 ^ L : Nat) : Int) := by rw [wr_id (by omega) (by omega)]; omega
  have a0 : eqI ((2 ^ L : Nat) : Int) 0 = false := eqI_false (by omega)
  have a1 : eqI ((3 * 2 ^ L : Nat) : Int) 0 = false := eqI_false (by omega)
  have a2 : wr (Int.tdiv (x : Int) ((2 ^ L : Nat) : Int)) = ((x / 2 ^ L : Nat) : Int) := by rw [tdiv_nat, wr_nat (Nat.lt_of_le_of_lt hqd (by omega))]
  have a3 : wr ((x : Int) + 1) = ((x + 1 : Nat) : Int) := wr_add1 (by omega)
  have b0 : ∀ y : Int, leN ((o0.length + [y].length) * 8) 140737488355328 = true := fun y => leN_true (by simp; omega)
  have b1 : ∀ y : Int, leN ((o1.length + [y].length) * 8) 140737488355328 = true := fun y => leN_true (by simp; omega)
  have b2 : ∀ y : Int, leN ((o2.length + [y].length) * 8) 140737488355328 = true := fun y => leN_true (by simp; omega)
  intro m
  induction m with
  | zero =>
    intro d f hd h1 hno hf
    obtain ⟨f, rfl⟩ : ∃ g, f = g + 1 := ⟨f - 1, by omega⟩
    refine ⟨x, ?_, ?_⟩
    · by_cases hk : kC cl rows (2 ^ L) x < 0
      · exact .inl ⟨hk, rfl⟩
      · refine .inr ⟨by omega, 3 * 2 ^ L, by omega, Nat.le_refl _, ?_, rfl, fun e he1 he2 => hno e he1 (by omega)⟩
        rw [Nat.add_mod_right, Nat.mod_eq_of_lt hx]
    · rw [m132_12_succ]
      unfold c132_12
      rw [w3, ltI_false (by omega), cond_false]
      simp only [a0, a2, a3, b0, b1, b2, Bool.not_false, mst2]
      obtain ⟨q, hqq⟩ : ∃ q, x / 2 ^ L = q := ⟨_, rfl⟩
      rw [hqq] at hq
      rw [hqq]
      obtain rfl | rfl | rfl : q = 0 ∨ q = 1 ∨ q = 2 := by omega
      · rfl
      · rfl
      · rfl
  | succ m ih =>
    intro d f hd h1 hno hf
    obtain ⟨f, rfl⟩ : ∃ g, f = g + 1 := ⟨f - 1, by omega⟩
    have a4 : wr ((x : Int) + (d : Int)) = ((x + d : Nat) : Int) := by rw [wr_id (by omega) (by omega)]; omega
    have a5 : wr ((d : Int) + 1) = ((d + 1 : Nat) : Int) := wr_add1 (by omega)
    have hmod : (x + d) % (3 * 2 ^ L) < 3 * 2 ^ L := Nat.mod_lt _ (by omega)
    by_cases hv : varC rows (2 ^ L) x < 0
    · refine ⟨x, .inl ⟨by rw [kC_none hv]; omega, rfl⟩, ?_⟩
      rw [m132_12_succ]
      unfold c132_12
      rw [w3, ltI_true (by omega : (d : Int) < ((3 * 2 ^ L : Nat) : Int)), cond_true, leI_false (by omega), cond_false]
      simp only [a0, a2, a3, b0, b1, b2, Bool.not_false, mst2]
      obtain ⟨q, hqq⟩ : ∃ q, x / 2 ^ L = q := ⟨_, rfl⟩
      rw [hqq] at hq
      rw [hqq]
      obtain rfl | rfl | rfl : q = 0 ∨ q = 1 ∨ q = 2 := by omega
      · rfl
      · rfl
      · rfl
    · have hvk := kC_some (cl := cl) hv
      have vV := var_in G x
      obtain ⟨v, hvn⟩ : ∃ v : Nat, varC rows (2 ^ L) x = (v : Int) := ⟨(varC rows (2 ^ L) x).toNat, by omega⟩
      have hk0 : 0 ≤ kC cl rows (2 ^ L) x := by
        obtain ⟨c, _, hc⟩ := G.cc v (by omega)
        rw [hvk, hvn, Int.toNat_natCast, hc]; omega
      have hgo : ∀ f', m < f' → kC cl rows (2 ^ L) ((x + d) % (3 * 2 ^ L)) ≠ kC cl rows (2 ^ L) x → ∃ y : Nat, Follows (kC cl rows (2 ^ L)) (3 * 2 ^ L) x y ∧ m132_12 N A f' (L : Int) ((2 ^ L : Nat) : Int) (x : Int) (varC rows (2 ^ L) x) (x : Int) ((d + 1 : Nat) : Int) c0 v1 rows S cl x4 x5 x6 o0 o1 o2 =
          A (L : Int) ((2 ^ L : Nat) : Int) ((x + 1 : Nat) : Int) c0 v1 rows S cl x4 x5 x6 (ap 0 (x / 2 ^ L) (y : Int) o0) (ap 1 (x / 2 ^ L) (y : Int) o1) (ap 2 (x / 2 ^ L) (y : Int) o2) := by
        intro f' hf' hne
        refine ih (d + 1) f' (by omega) (by omega) (fun e he1 he2 => ?_) hf'
        by_cases hed : e = d
        · rw [hed]; exact hne
        · exact hno e he1 (by omega)
      rw [m132_12_succ]
      unfold c132_12
      rw [w3, ltI_true (by omega : (d : Int) < ((3 * 2 ^ L : Nat) : Int)), cond_true, leI_true (by omega), cond_true, a1, a4, tmod_nat, q189_eq c0 v1 rows S h6 hmod]
      simp only [bsm, Bool.not_false, mst2]
      by_cases hu : varC rows (2 ^ L) ((x + d) % (3 * 2 ^ L)) < 0
      · rw [leI_false (by omega), cond_false, a5]
        exact hgo f (by omega) (by rw [kC_none hu]; omega)
      · have huk := kC_some (cl := cl) hu
        have uV := var_in G ((x + d) % (3 * 2 ^ L))
        rw [leI_true (by omega), cond_true, G.lc, ltI_true uV, ltI_true vV, ← huk, ← hvk]
        simp only [Bool.and_self, mst2]
        by_cases he : kC cl rows (2 ^ L) ((x + d) % (3 * 2 ^ L)) = kC cl rows (2 ^ L) x
        · rw [eqI_true he, cond_true]
          refine ⟨(x + d) % (3 * 2 ^ L), .inr ⟨hk0, d, h1, by omega, rfl, he, hno⟩, ?_⟩
          simp only [a0, a2, a3, b0, b1, b2, Bool.not_false, mst2]
          obtain ⟨q, hqq⟩ : ∃ q, x / 2 ^ L = q := ⟨_, rfl⟩
          rw [hqq] at hq
          rw [hqq]
          obtain rfl | rfl | rfl : q = 0 ∨ q = 1 ∨ q = 2 := by omega
          · rfl
          · rfl
          · rfl
        · rw [eqI_false he, cond_false, a5]
          exact hgo f (by omega) he
theorem ref_cells {N L V : Nat} {c0 v1 : Int} {rows : List Row} {S : List Pr} {cl x4 x5 x6 : List Int} (hN : 2000 ≤ N)
    (G : Ground cl rows (2 ^ L) V) (h6 : L ≤ 6) : ∀ (k x f : Nat) (o0 o1 o2 : List Int), x + k = 3 * 2 ^ L → k < f → LenP (2 ^ L) x o0 o1 o2 →
    (∀ z, z < x → ∃ u : Nat, oG (2 ^ L) o0 o1 o2 z = (u : Int) ∧ Follows (kC cl rows (2 ^ L)) (3 * 2 ^ L) z u) →
    ∃ p0 p1 p2, m132_7 N f (L : Int) ((2 ^ L : Nat) : Int) (x : Int) c0 v1 rows S cl x4 x5 x6 o0 o1 o2 = some ((p0, p1, p2, ()), 0, ()) ∧ LenP (2 ^ L) (3 * 2 ^ L) p0 p1 p2 ∧
      ∀ z, z < 3 * 2 ^ L → ∃ u : Nat, oG (2 ^ L) p0 p1 p2 z = (u : Int) ∧ Follows (kC cl rows (2 ^ L)) (3 * 2 ^ L) z u := by
  have hp := two_pow_pos L
  have hle := two_pow_le h6
  have w3 : wr (3 * ((2 ^ L : Nat) : Int)) = ((3 * 2 ^ L : Nat) : Int) := by rw [wr_id (by omega) (by omega)]; omega
  intro k
  induction k with
  | zero =>
    intro x f o0 o1 o2 hk hf hl hz
    obtain ⟨f, rfl⟩ : ∃ g, f = g + 1 := ⟨f - 1, by omega⟩
    obtain rfl : x = 3 * 2 ^ L := by omega
    refine ⟨o0, o1, o2, ?_, hl, hz⟩
    rw [m132_7_succ]
    unfold c132_7
    rw [w3, ltI_false (by omega), cond_false]
  | succ k ih =>
    intro x f o0 o1 o2 hk hf hl hz
    obtain ⟨f, rfl⟩ : ∃ g, f = g + 1 := ⟨f - 1, by omega⟩
    have hx : x < 3 * 2 ^ L := by omega
    obtain ⟨y, hy, e⟩ := search_run (N := N) (A := m132_7 N f) (c0 := c0) (v1 := v1) (S := S) (x4 := x4) (x5 := x5) (x6 := x6) G h6 hx hl (3 * 2 ^ L - 1) 1 N (by omega) (by omega) (fun e h1 h2 => by omega) (by omega)
    obtain ⟨p0, p1, p2, e2, h2, h3⟩ := ih (x + 1) f _ _ _ (by omega) (by omega) (hl.ap (y := (y : Int)) hx) (fun z hzx => by
      rw [oG_ap hl hx z (by omega)]
      by_cases ez : z = x
      · rw [if_pos ez, ez]; exact ⟨y, rfl, hy⟩
      · rw [if_neg ez]; exact hz z (by omega))
    refine ⟨p0, p1, p2, ?_, h2, h3⟩
    rw [m132_7_succ]
    unfold c132_7
    rw [w3, ltI_true (by omega : (x : Int) < ((3 * 2 ^ L : Nat) : Int)), cond_true, q189_eq c0 v1 rows S h6 hx]
    simp only [bsm]
    exact e.trans e2
theorem three_eq {k : Nat → Int} {n : Nat} {a0 a1 a2 b0 b1 b2 : List Int} (hn : 0 < n) (ha : Len3 n 2 a0 a1 a2) (hb : LenP n (3 * n) b0 b1 b2)
    (fa : ∀ z, z < 3 * n → ∃ u : Nat, oG n a0 a1 a2 z = (u : Int) ∧ Follows k (3 * n) z u) (fb : ∀ z, z < 3 * n → ∃ u : Nat, oG n b0 b1 b2 z = (u : Int) ∧ Follows k (3 * n) z u) : a0 = b0 ∧ a1 = b1 ∧ a2 = b2 := by
  have he : ∀ z, z < 3 * n → oG n a0 a1 a2 z = oG n b0 b1 b2 z := fun z hz => by
    obtain ⟨u, e1, h1⟩ := fa z hz
    obtain ⟨w, e2, h2⟩ := fb z hz
    rw [e1, e2, follows_unique h1 h2]
  have ext : ∀ a b : List Int, a.length = n → b.length = n → (∀ i, i < n → a.getD i 0 = b.getD i 0) → a = b := by
    intro a b h1 h2 h
    refine List.ext_getElem (h1.trans h2.symm) fun i i1 i2 => ?_
    have := h i (by omega)
    simpa [List.getD_eq_getElem?_getD, List.getElem?_eq_getElem i1, List.getElem?_eq_getElem i2] using this
  obtain ⟨h0, h1, h2⟩ := ha
  obtain ⟨g0, g1, g2⟩ := hb
  refine ⟨ext _ _ h0 (by omega) fun i hi => ?_, ext _ _ (h1 (by omega)) (by omega) fun i hi => ?_, ext _ _ (h2 (by omega)) (by omega) fun i hi => ?_⟩
  · have := he (0 * n + i) (by omega)
    obtain ⟨c1, c2⟩ := cell (j := 0) hi
    unfold oG at this
    rw [c1, c2] at this
    exact this
  · have := he (1 * n + i) (by omega)
    obtain ⟨c1, c2⟩ := cell (j := 1) hi
    unfold oG at this
    rw [c1, c2] at this
    exact this
  · have := he (2 * n + i) (by omega)
    obtain ⟨c1, c2⟩ := cell (j := 2) hi
    unfold oG at this
    rw [c1, c2] at this
    exact this
end Go.Proofs.Ytgimohchocjgcaa.V
