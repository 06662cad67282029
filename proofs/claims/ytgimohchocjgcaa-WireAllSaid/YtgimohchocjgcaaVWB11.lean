import Derived.Test.YtgimohchocjgcaaVWB10
import Derived.KernelRfl
set_option linter.unusedVariables false
set_option linter.unusedSimpArgs false
namespace Go.Proofs.Ytgimohchocjgcaa.V
def Len3 (n j : Nat) (o0 o1 o2 : List Int) : Prop := o0.length = n ∧ (1 ≤ j → o1.length = n) ∧ (2 ≤ j → o2.length = n)
theorem Len3.up {n j : Nat} {o0 o1 o2 : List Int} (h : Len3 n j o0 o1 o2) (q i : Nat) (v : Int) : Len3 n j (up 0 q i v o0) (up 1 q i v o1) (up 2 q i v o2) :=
  ⟨by rw [up_len]; exact h.1, fun hj => by rw [up_len]; exact h.2.1 hj, fun hj => by rw [up_len]; exact h.2.2 hj⟩
structure Ground (cl : List Int) (rows : List Row) (n V : Nat) : Prop where
  n1 : 1 ≤ n
  n64 : n ≤ 64
  rl : rows.length ≤ n
  lc : cl.length = V
  cc : ∀ v : Nat, v < V → ∃ c : Nat, c < V ∧ cl.getD v 0 = (c : Int)
  vars : ∀ r ∈ rows, ∀ j, -1 ≤ rw3 r j ∧ rw3 r j < (V : Int)
theorem row_in {rows : List Row} {i : Nat} (h : i < rows.length) : rows.getD i zrow ∈ rows := by
  rw [List.getD_eq_getElem?_getD, List.getElem?_eq_getElem h]
  exact List.getElem_mem h
theorem cell_step {N f nn i j V : Nat} {A : Int → Int → Int → Int → (List Row) → (List Pr) → (List Int) → (List Int) → (List Int) → (List Int) → (List Int) → (List Int) → (List Int) → (List Int) → (List Int) → Option ((List Int × List Int × List Int × Unit) × Int × Unit)} {t54 c0 v1 : Int} {rows : List Row} {S : List Pr} {cl fi la x y z o0 o1 o2 : List Int}
    (G : Ground cl rows nn V) (hj : j < 3) (hi : i < nn) (hl : Len3 nn j o0 o1 o2) (h : PInv (kC cl rows nn) V nn (j * nn + i) fi la (oG nn o0 o1 o2)) :
    ∃ fi' la' p0 p1 p2, m131_17 N A (f + 1) (nn : Int) (j : Int) t54 (nn : Int) (i : Int) c0 v1 rows S cl fi la x y z o0 o1 o2 = m131_17 N A f (nn : Int) (j : Int) t54 (nn : Int) ((i + 1 : Nat) : Int) c0 v1 rows S cl fi' la' x y z p0 p1 p2 ∧
      Len3 nn j p0 p1 p2 ∧ PInv (kC cl rows nn) V nn (j * nn + i + 1) fi' la' (oG nn p0 p1 p2) := by
  have hb := G.n64
  have hjn : j * nn ≤ 2 * nn := Nat.mul_le_mul_right _ (by omega)
  have l0 : j = 0 → o0.length = nn := fun _ => hl.1
  have l1 : j = 1 → o1.length = nn := fun e => hl.2.1 (by omega)
  have l2 : j = 2 → o2.length = nn := fun e => hl.2.2 (by omega)
  have hoG := fun v w hw => oG_up (v := v) hi hj l0 l1 l2 w hw
  obtain ⟨c1, c2⟩ := cell (j := j) hi
  have hvar : varC rows nn (j * nn + i) = if rows.length ≤ i then -1 else rw3 (rows.getD i zrow) j := by unfold varC; rw [c1, c2]
  by_cases hs : rows.length ≤ i ∨ rw3 (rows.getD i zrow) j < 0
  · have hneg : varC rows nn (j * nn + i) < 0 := by
      rw [hvar]
      split
      · omega
      · rcases hs with hs | hs
        · contradiction
        · exact hs
    have hk : kC cl rows nn (j * nn + i) < 0 := by unfold kC; rw [if_pos hneg]; omega
    refine ⟨fi, la, up 0 j i ((j * nn + i : Nat) : Int) o0, up 1 j i ((j * nn + i : Nat) : Int) o1, up 2 j i ((j * nn + i : Nat) : Int) o2, ?_, hl.up _ _ _, inv_none h hk (fun w hw => ?_) ?_⟩
    · obtain rfl | rfl | rfl : j = 0 ∨ j = 1 ∨ j = 2 := by omega
      · exact skip_0 A t54 c0 v1 rows S cl fi la x y z o0 o1 o2 hb hi (l0 rfl) hs
      · exact skip_1 A t54 c0 v1 rows S cl fi la x y z o0 o1 o2 hb hi (l1 rfl) hs
      · exact skip_2 A t54 c0 v1 rows S cl fi la x y z o0 o1 o2 hb hi (l2 rfl) hs
    · rw [hoG _ w (by omega), if_neg (by omega)]
    · rw [hoG _ _ (by omega), if_pos rfl]
  · have hr : i < rows.length := by omega
    have hnn : ¬ rw3 (rows.getD i zrow) j < 0 := fun e => hs (.inr e)
    obtain ⟨v, hv⟩ : ∃ v : Nat, rw3 (rows.getD i zrow) j = (v : Int) := ⟨(rw3 (rows.getD i zrow) j).toNat, by omega⟩
    have hvV : v < V := by have := (G.vars _ (row_in hr) j).2; omega
    obtain ⟨c, hc, hcl⟩ := G.cc v hvV
    have hk : kC cl rows nn (j * nn + i) = (c : Int) := by
      unfold kC
      rw [hvar, if_neg (by omega : ¬ rows.length ≤ i), hv, if_neg (by omega), Int.toNat_natCast, hcl]
    by_cases hf : fi.getD c 0 < 0
    · refine ⟨setL fi c ((j * nn + i : Nat) : Int), setL la c ((j * nn + i : Nat) : Int), up 0 j i ((j * nn + i : Nat) : Int) o0, up 1 j i ((j * nn + i : Nat) : Int) o1, up 2 j i ((j * nn + i : Nat) : Int) o2, ?_, hl.up _ _ _, inv_new h hc hk hf (fun w hw => ?_) ?_⟩
      · obtain rfl | rfl | rfl : j = 0 ∨ j = 1 ∨ j = 2 := by omega
        · exact new_0 A t54 c0 v1 rows S cl fi la x y z o0 o1 o2 hb hi (l0 rfl) hr hv hvV hc G.lc h.lf h.ll hcl hf
        · exact new_1 A t54 c0 v1 rows S cl fi la x y z o0 o1 o2 hb hi (l1 rfl) hr hv hvV hc G.lc h.lf h.ll hcl hf
        · exact new_2 A t54 c0 v1 rows S cl fi la x y z o0 o1 o2 hb hi (l2 rfl) hr hv hvV hc G.lc h.lf h.ll hcl hf
      · rw [hoG _ w (by omega), if_neg (by omega)]
      · rw [hoG _ _ (by omega), if_pos rfl]
    · obtain ⟨g, hg, hga⟩ : ∃ g : Nat, la.getD c 0 = (g : Int) ∧ g < j * nn + i := by
        rcases h.F c hc with ⟨e, _⟩ | ⟨f, g, e1, e2, _, e3, _⟩
        · omega
        · exact ⟨g, e2, e3⟩
      have hqn : g / nn < j + 1 := Nat.div_lt_of_lt_mul (by rw [Nat.mul_comm, Nat.succ_mul]; omega)
      have hm : g % nn < nn := Nat.mod_lt _ (by omega)
      have hgc : g / nn * nn + g % nn = g := by rw [Nat.mul_comm]; exact Nat.div_add_mod g nn
      have L1 := hl.up j i ((j * nn + i : Nat) : Int)
      have L2 := L1.up (g / nn) (g % nn) ((j * nn + i : Nat) : Int)
      have hO2 := fun w hw => oG_up (v := ((j * nn + i : Nat) : Int)) (j := g / nn) hm (by omega) (fun _ => L1.1) (fun e => L1.2.1 (by omega)) (fun e => L1.2.2 (by omega)) w hw
      have hO3 := fun w hw => oG_up (v := fi.getD c 0) hi hj (fun _ => L2.1) (fun e => L2.2.1 (by omega)) (fun e => L2.2.2 (by omega)) w hw
      refine ⟨fi, setL la c ((j * nn + i : Nat) : Int), _, _, _, ?_, L2.up j i (fi.getD c 0), inv_more h hc hk hf hg (fun w hw hwg => ?_) ?_ ?_⟩
      · obtain ⟨q, hq⟩ : ∃ q, g / nn = q := ⟨_, rfl⟩
        rw [hq] at hqn
        rw [hq]
        obtain rfl | rfl | rfl : j = 0 ∨ j = 1 ∨ j = 2 := by omega
        · obtain rfl : q = 0 := by omega
          exact more_0_0 A t54 c0 v1 rows S cl fi la x y z o0 o1 o2 hb hi (l0 rfl) hr hv hvV hc G.lc h.lf h.ll hcl hf hg hq (by omega)
        · obtain rfl | rfl : q = 0 ∨ q = 1 := by omega
          · exact more_1_0 A t54 c0 v1 rows S cl fi la x y z o0 o1 o2 hb hi (l1 rfl) hl.1 hr hv hvV hc G.lc h.lf h.ll hcl hf hg hq (by omega)
          · exact more_1_1 A t54 c0 v1 rows S cl fi la x y z o0 o1 o2 hb hi (l1 rfl) hr hv hvV hc G.lc h.lf h.ll hcl hf hg hq (by omega)
        · obtain rfl | rfl | rfl : q = 0 ∨ q = 1 ∨ q = 2 := by omega
          · exact more_2_0 A t54 c0 v1 rows S cl fi la x y z o0 o1 o2 hb hi (l2 rfl) hl.1 hr hv hvV hc G.lc h.lf h.ll hcl hf hg hq (by omega)
          · exact more_2_1 A t54 c0 v1 rows S cl fi la x y z o0 o1 o2 hb hi (l2 rfl) (hl.2.1 (by omega)) hr hv hvV hc G.lc h.lf h.ll hcl hf hg hq (by omega)
          · exact more_2_2 A t54 c0 v1 rows S cl fi la x y z o0 o1 o2 hb hi (l2 rfl) hr hv hvV hc G.lc h.lf h.ll hcl hf hg hq (by omega)
      · rw [hO3 w (by omega), if_neg (by omega), hO2 w (by omega), if_neg (by omega), hoG _ w (by omega), if_neg (by omega)]
      · rw [hO3 g (by omega), if_neg (by omega), hO2 g (by omega), if_pos hgc.symm]
      · rw [hO3 _ (by omega), if_pos rfl]
theorem cells_run {N nn j V : Nat} {A : Int → Int → Int → Int → (List Row) → (List Pr) → (List Int) → (List Int) → (List Int) → (List Int) → (List Int) → (List Int) → (List Int) → (List Int) → (List Int) → Option ((List Int × List Int × List Int × Unit) × Int × Unit)} {c0 v1 : Int} {rows : List Row} {S : List Pr} {cl x y z : List Int}
    (G : Ground cl rows nn V) (hj : j < 3) : ∀ (k i f : Nat) (fi la o0 o1 o2 : List Int), i + k = nn → k < f → Len3 nn j o0 o1 o2 → PInv (kC cl rows nn) V nn (j * nn + i) fi la (oG nn o0 o1 o2) →
    ∃ fi' la' p0 p1 p2, m131_17 N A f (nn : Int) (j : Int) (j : Int) (nn : Int) (i : Int) c0 v1 rows S cl fi la x y z o0 o1 o2 = A (nn : Int) ((j + 1 : Nat) : Int) c0 v1 rows S cl fi' la' x y z p0 p1 p2 ∧
      Len3 nn j p0 p1 p2 ∧ PInv (kC cl rows nn) V nn ((j + 1) * nn) fi' la' (oG nn p0 p1 p2)
  | 0, i, f + 1, fi, la, o0, o1, o2, hk, hf, hl, h => by
    obtain rfl : i = nn := by omega
    refine ⟨fi, la, o0, o1, o2, ?_, hl, ?_⟩
    · rw [m131_17_succ]
      unfold c131_17
      rw [ltI_false (by omega), cond_false, wr_add1 (by omega)]
    · rw [Nat.succ_mul]; exact h
  | k + 1, i, f + 1, fi, la, o0, o1, o2, hk, hf, hl, h => by
    obtain ⟨fi1, la1, p0, p1, p2, e1, l1, h1⟩ := cell_step (N := N) (f := f) (A := A) (t54 := (j : Int)) (c0 := c0) (v1 := v1) (S := S) (x := x) (y := y) (z := z) G hj (by omega : i < nn) hl h
    obtain ⟨fi2, la2, r0, r1, r2, e2, l2, h2⟩ := cells_run (N := N) (A := A) (c0 := c0) (v1 := v1) (S := S) (x := x) (y := y) (z := z) G hj k (i + 1) f fi1 la1 p0 p1 p2 (by omega) (by omega) l1 (by rw [← Nat.add_assoc]; exact h1)
    exact ⟨fi2, la2, r0, r1, r2, e1.trans e2, l2, h2⟩
theorem rep_len (n : Nat) : (List.replicate n (0 : Int)).length = n := List.length_replicate
theorem inv_cong {k : Nat → Int} {V n a : Nat} {fi la : List Int} {O O' : Nat → Int} (h : PInv k V n a fi la O) (e : ∀ z, z < a → O' z = O z) : PInv k V n a fi la O' :=
  ⟨h.lf, h.ll, h.F, fun z hz => by rw [e z hz]; exact h.O z hz⟩
theorem mk3 (n : Nat) (h64 : n ≤ 64) : (leI 0 (n : Int) && (eqI (n : Int) (n : Int) && leN (Int.toNat (n : Int) * 8) 140737488355328)) = true := by
  rw [leI_zero, eqI_true rfl, Int.toNat_natCast, leN_true (by omega)]; rfl
theorem columns_run {N nn V : Nat} {c0 v1 : Int} {rows : List Row} {S : List Pr} {cl x y z fi la : List Int} (hN : 2000 ≤ N)
    (G : Ground cl rows nn V) (h0 : PInv (kC cl rows nn) V nn 0 fi la (fun _ => 0)) (f : Nat) :
    ∃ p0 p1 p2, m131_13 N (f + 4) (nn : Int) 0 c0 v1 rows S cl fi la x y z [] [] [] = some ((p0, p1, p2, ()), 0, ()) ∧ Len3 nn 2 p0 p1 p2 ∧
      ∀ w, w < 3 * nn → ∃ u : Nat, oG nn p0 p1 p2 w = (u : Int) ∧ Follows (kC cl rows nn) (3 * nn) w u := by
  have hb := G.n64
  have hn := G.n1
  have e0 : PInv (kC cl rows nn) V nn (0 * nn + 0) fi la (oG nn (List.replicate nn 0) [] []) := by
    rw [Nat.zero_mul, Nat.add_zero]; exact inv_cong h0 (fun w hw => absurd hw (by omega))
  obtain ⟨fi1, la1, a0, a1, a2, r1, l1, h1⟩ := cells_run (N := N) (A := m131_13 N (f + 3)) (c0 := c0) (v1 := v1) (S := S) (x := x) (y := y) (z := z) G (by omega : 0 < 3) nn 0 N fi la (List.replicate nn 0) [] [] (by omega) (by omega) ⟨rep_len nn, fun h => by omega, fun h => by omega⟩ e0
  have e1 : PInv (kC cl rows nn) V nn (1 * nn + 0) fi1 la1 (oG nn a0 (List.replicate nn 0) a2) := by
    rw [Nat.add_zero]
    refine inv_cong h1 fun w hw => ?_
    have : w / nn = 0 := Nat.div_eq_of_lt (by omega)
    unfold oG
    rw [if_pos this, if_pos this]
  obtain ⟨fi2, la2, b0, b1, b2, r2, l2, h2⟩ := cells_run (N := N) (A := m131_13 N (f + 2)) (c0 := c0) (v1 := v1) (S := S) (x := x) (y := y) (z := z) G (by omega : 1 < 3) nn 0 N fi1 la1 a0 (List.replicate nn 0) a2 (by omega) (by omega) ⟨l1.1, fun h => rep_len nn, fun h => by omega⟩ e1
  have e2 : PInv (kC cl rows nn) V nn (2 * nn + 0) fi2 la2 (oG nn b0 b1 (List.replicate nn 0)) := by
    rw [Nat.add_zero]
    refine inv_cong h2 fun w hw => ?_
    have : w / nn < 2 := Nat.div_lt_of_lt_mul (by omega)
    unfold oG
    by_cases c : w / nn = 0
    · rw [if_pos c, if_pos c]
    · have q2 : ∀ q : Nat, q < 2 → q ≠ 0 → q = 1 := by omega
      have c1 := q2 _ this c
      rw [if_neg c, if_neg c, if_pos c1, if_pos c1]
  obtain ⟨fi3, la3, d0, d1, d2, r3, l3, h3⟩ := cells_run (N := N) (A := m131_13 N (f + 1)) (c0 := c0) (v1 := v1) (S := S) (x := x) (y := y) (z := z) G (by omega : 2 < 3) nn 0 N fi2 la2 b0 b1 (List.replicate nn 0) (by omega) (by omega) ⟨l2.1, fun h => l2.2.1 (by omega), fun h => rep_len nn⟩ e2
  refine ⟨d0, d1, d2, ?_, l3, fun w hw => inv_end h3 hw⟩
  have s1 : m131_13 N (f + 4) (nn : Int) 0 c0 v1 rows S cl fi la x y z [] [] [] = m131_17 N (m131_13 N (f + 3)) N (nn : Int) ((0 : Nat) : Int) ((0 : Nat) : Int) (nn : Int) ((0 : Nat) : Int) c0 v1 rows S cl fi la x y z (List.replicate nn 0) [] [] := by
    rw [m131_13_succ]
    unfold c131_13
    rw [ltI_true (by omega : (0 : Int) < 3), cond_true, mk3 nn hb, mst2]
    rfl
  have s2 : m131_13 N (f + 3) (nn : Int) ((0 + 1 : Nat) : Int) c0 v1 rows S cl fi1 la1 x y z a0 a1 a2 = m131_17 N (m131_13 N (f + 2)) N (nn : Int) ((1 : Nat) : Int) ((1 : Nat) : Int) (nn : Int) ((0 : Nat) : Int) c0 v1 rows S cl fi1 la1 x y z a0 (List.replicate nn 0) a2 := by
    rw [m131_13_succ]
    unfold c131_13
    rw [ltI_true (by omega : ((0 + 1 : Nat) : Int) < 3), cond_true, mk3 nn hb, mst2]
    rfl
  have s3 : m131_13 N (f + 2) (nn : Int) ((1 + 1 : Nat) : Int) c0 v1 rows S cl fi2 la2 x y z b0 b1 b2 = m131_17 N (m131_13 N (f + 1)) N (nn : Int) ((2 : Nat) : Int) ((2 : Nat) : Int) (nn : Int) ((0 : Nat) : Int) c0 v1 rows S cl fi2 la2 x y z b0 b1 (List.replicate nn 0) := by
    rw [m131_13_succ]
    unfold c131_13
    rw [ltI_true (by omega : ((1 + 1 : Nat) : Int) < 3), cond_true, mk3 nn hb, mst2]
    rfl
  have s4 : m131_13 N (f + 1) (nn : Int) ((2 + 1 : Nat) : Int) c0 v1 rows S cl fi3 la3 x y z d0 d1 d2 = some ((d0, d1, d2, ()), 0, ()) := by
    rw [m131_13_succ]
    unfold c131_13
    rw [ltI_false (by omega), cond_false]
  rw [s1, r1, s2, r2, s3, r3, s4]
theorem minus_run {N V : Nat} {n6 c0 v1 : Int} {rows : List Row} {S : List Pr} {cl la x y z o0 o1 o2 : List Int} (hV : V < 1000000) :
    ∀ (k t f : Nat) (fi : List Int), fi.length = V → (∀ i : Nat, i < t → fi.getD i 0 = -1) → t + k = V → k < f →
    ∃ fi', m131_8 N f n6 (V : Int) (t : Int) c0 v1 rows S cl fi la x y z o0 o1 o2 = m131_13 N N n6 0 c0 v1 rows S cl fi' la x y z o0 o1 o2 ∧ fi'.length = V ∧ ∀ i : Nat, i < V → fi'.getD i 0 = -1
  | 0, t, f + 1, fi, hl, h, ht, hf => by
    refine ⟨fi, ?_, hl, fun i hi => h i (by omega)⟩
    rw [m131_8_succ]
    unfold c131_8
    rw [ltI_false (by omega), cond_false]
  | k + 1, t, f + 1, fi, hl, h, ht, hf => by
    rw [m131_8_succ]
    unfold c131_8
    rw [ltI_true (by omega : (t : Int) < (V : Int)), cond_true, leI_zero, hl, ltI_true (by omega : (t : Int) < (V : Int)), wr_add1 (by omega), Int.toNat_natCast]
    simp only [Bool.and_self, mst2]
    refine minus_run hV k (t + 1) f _ (by rw [setL_length]; exact hl) (fun i hi => ?_) (by omega) (by omega)
    rw [setL_getI]
    by_cases e : i = t
    · rw [if_pos ⟨e, by rw [hl]; omega⟩]
    · rw [if_neg (fun hc => e hc.1)]; exact h i (by omega)
end Go.Proofs.Ytgimohchocjgcaa.V
