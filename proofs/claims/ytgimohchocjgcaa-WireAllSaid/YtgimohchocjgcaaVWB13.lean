import Derived.Test.YtgimohchocjgcaaVWB12
import Derived.KernelRfl
set_option linter.unusedVariables false
set_option linter.unusedSimpArgs false
namespace Go.Proofs.Ytgimohchocjgcaa.V
theorem ground_of {c0 : Int} {V L : Nat} {rows : List Row} {S : List Pr} {cl : List Int} (hg : GoodCirc c0 (V : Int) rows S) (hc : GoodC S V cl) (h6 : L ≤ 6) (hr : rows.length ≤ 2 ^ L) : Ground cl rows (2 ^ L) V :=
  ⟨two_pow_pos L, two_pow_le h6, hr, hc.len, fun v hv => ⟨(cl.getD v 0).toNat, by have := hc.nn v hv; have := hc.le v hv; omega, by have := hc.nn v hv; omega⟩, fun r hr j => hg.vars hr j⟩
theorem q204_no {N : Nat} {log : Int} (h : ¬ (1 ≤ log ∧ log ≤ 6)) : q204 N log = some (false, ()) := by
  unfold q204
  by_cases h1 : 1 ≤ log
  · rw [leI_true h1, cond_true, leI_false (by omega)]
  · rw [leI_false h1, cond_false]
theorem perms_eq {N : Nat} (hN : 100000 ≤ N) {c0 : Int} {V : Nat} {rows : List Row} {S : List Pr} (hg : GoodCirc c0 (V : Int) rows S) (log : Int) :
    ∃ r, q131 N c0 (V : Int) rows S log = some r ∧ q132 N c0 (V : Int) rows S log = some r ∧ (r = (([], [], [], ()), 1, ()) ∨ ∃ L : Nat, log = (L : Int) ∧ 1 ≤ L ∧ L ≤ 6 ∧ rows.length ≤ 2 ^ L ∧ r.2.1 = 0 ∧ Len3 (2 ^ L) 2 r.1.1 r.1.2.1 r.1.2.2.1 ∧ ∃ cl, q134 N c0 (V : Int) rows S = some (cl, ()) ∧
      ∀ z, z < 3 * 2 ^ L → ∃ u : Nat, oG (2 ^ L) r.1.1 r.1.2.1 r.1.2.2.1 z = (u : Int) ∧ Follows (kC cl rows (2 ^ L)) (3 * 2 ^ L) z u) := by
  by_cases hlog : 1 ≤ log ∧ log ≤ 6
  case neg =>
    refine ⟨(([], [], [], ()), 1, ()), ?_, ?_, .inl rfl⟩
    · unfold q131
      rw [q204_no hlog]
      rfl
    · unfold q132
      by_cases h1 : log < 1
      · rw [ltI_true h1, cond_true]
      · rw [ltI_false h1, cond_false, ltI_true (by omega), cond_true]
  obtain ⟨L, rfl⟩ : ∃ L : Nat, log = (L : Int) := ⟨log.toNat, by omega⟩
  have h1 : 1 ≤ L := by omega
  have h6 : L ≤ 6 := by omega
  have hV := hg.v200
  have hp := two_pow_pos L
  have hle := two_pow_le h6
  by_cases hr : 2 ^ L < rows.length
  · refine ⟨(([], [], [], ()), 1, ()), ?_, ?_, .inl rfl⟩
    · unfold q131
      rw [q204_eq N h1 h6]
      simp only [bsm]
      rw [Bool.not_true, cond_false, sh1 h6, ltI_true (by omega), cond_true]
    · unfold q132
      rw [ltI_false (by omega), cond_false, ltI_false (by omega), cond_false, leI_zero, ltI_true (by omega : (L : Int) < 18446744073709551616), sh1' h6, ltI_true (by omega), cond_true, mst2, mst2]
  have hm : q119 N c0 (V : Int) rows S = some (0, ()) := by
    rw [q119_eq (by omega) c0 (V : Int) rows S (by have := hg.rows; omega) (by have := hg.same; omega), hg.may]
  have hS := hg.pairs (V := V) rfl
  obtain ⟨cl, e4, e5, gc, fc⟩ := classes_eq (c0 := c0) (v2 := rows) hS (by have := hg.same; omega) (by omega) hN hm
  have G := ground_of hg gc h6 (by omega)
  obtain ⟨fi, r8, fl, fm⟩ := minus_run (N := N) (n6 := ((2 ^ L : Nat) : Int)) (c0 := c0) (v1 := (V : Int)) (rows := rows) (S := S) (cl := cl) (la := List.replicate V 0) (x := []) (y := []) (z := []) (o0 := []) (o1 := []) (o2 := []) (V := V) (by omega) V 0 N (List.replicate V 0) (rep_len V) (fun i hi => absurd hi (by omega)) (by omega) (by omega)
  have I0 : PInv (kC cl rows (2 ^ L)) V (2 ^ L) 0 fi (List.replicate V 0) (fun _ => 0) :=
    ⟨fl, rep_len V, fun c hc => .inl ⟨fm c hc, fun z hz => absurd hz (by omega)⟩, fun z hz => absurd hz (by omega)⟩
  obtain ⟨n, rfl⟩ : ∃ n, N = n + 4 := ⟨N - 4, by omega⟩
  obtain ⟨p0, p1, p2, r13, l3, f3⟩ := columns_run (N := n + 4) (c0 := c0) (v1 := (V : Int)) (S := S) (x := []) (y := []) (z := []) (by omega) G I0 n
  obtain ⟨s0, s1, s2, r7, m3, g3⟩ := ref_cells (N := n + 4) (c0 := c0) (v1 := (V : Int)) (S := S) (x4 := []) (x5 := []) (x6 := []) (by omega) G h6 (3 * 2 ^ L) 0 (n + 4) [] [] [] (by omega) (by omega) ⟨by simp, by simp, by simp⟩ (fun z hz => absurd hz (by omega))
  obtain ⟨rfl, rfl, rfl⟩ := three_eq hp l3 m3 f3 g3
  refine ⟨((p0, p1, p2, ()), 0, ()), ?_, ?_, .inr ⟨L, rfl, h1, h6, by omega, rfl, l3, cl, e4, f3⟩⟩
  · unfold q131
    rw [q204_eq (n + 4) h1 h6]
    simp only [bsm]
    rw [Bool.not_true, cond_false, sh1 h6, ltI_false (by omega), cond_false, hm]
    simp only [bsm]
    rw [eqI_true rfl, Bool.not_true, cond_false, e4]
    simp only [bsm]
    rw [leI_zero, eqI_true rfl, Int.toNat_natCast, leN_true (by omega), show (true && (true && true)) = true from rfl, mst2, mst2, rep_len]
    exact r8.trans r13
  · unfold q132
    rw [ltI_false (by omega), cond_false, ltI_false (by omega), cond_false, leI_zero, ltI_true (by omega : (L : Int) < 18446744073709551616), sh1' h6, ltI_false (by omega), cond_false, mst2, mst2, mst2, mst2, e5]
    simp only [bsm]
    exact r7
theorem same_run {N : Nat} (a : List Int) (hb : a.length < 1000000) : ∀ (k i f : Nat), i + k = a.length → k < f → m133_4 N f a a (i : Int) = some (true, ())
  | 0, i, f + 1, hk, hf => by
    rw [m133_4_succ]
    unfold c133_4
    rw [ltI_false (by omega), cond_false]
  | k + 1, i, f + 1, hk, hf => by
    rw [m133_4_succ]
    unfold c133_4
    rw [ltI_true (by omega : (i : Int) < (a.length : Int)), cond_true, leI_zero, wr_add1 (by omega), Int.toNat_natCast, eqI_true rfl]
    simp only [Bool.and_self, mst2, Bool.not_true, cond_false]
    exact same_run a hb k (i + 1) f (by omega) (by omega)
theorem q133_same {N : Nat} (hN : 2000 ≤ N) (a : List Int) (ha : a.length < 2000) : q133 N a a = some (true, ()) := by
  unfold q133
  rw [eqI_true rfl, Bool.not_true, cond_false]
  exact same_run a (by omega) a.length 0 N (by omega) (by omega)
theorem b134' : q134 100000 0 2 [bRow] [Pr.mk 1 0] = some ([0, 0], ()) := by kernel_rfl
theorem b131' : q131 100000 0 2 [bRow] [Pr.mk 1 0] 1 = some (([4, 1], [2, 3], [0, 5], ()), 0, ()) := by kernel_rfl
instance : Big 100000 := ⟨by omega⟩
theorem wbegun' : q128 100000 = some (true, ()) := by
  have h : q136 100000 1 0 = some (nm 1 0, 0, ()) := q136_eq (L := 1) (x := 0) (by omega) (by omega) (by omega)
  unfold q128
  refine (congrArg (fun o => Option.bind o _) b134').trans ?_
  simp only [bsm]
  refine (congrArg (fun o => Option.bind o _) b131').trans ?_
  simp only [bsm]
  rw [h, nm10]
  simp only [bsm]
  rfl
theorem all_32 {N : Nat} (hN : 2000 ≤ N) (a b c : List Int) (ha : a.length < 2000) (hb : b.length < 2000) (hc : c.length < 2000) : m32_9 N N true 0 a b c a b c = some (true, ()) := by
  obtain ⟨n, hn⟩ : ∃ n, N = n + 1 + 1 + 1 + 1 := ⟨N - 4, by omega⟩
  have e : ∀ M, M = n + 1 + 1 + 1 + 1 → m32_9 N M true 0 a b c a b c = some (true, ()) := by
    rintro M rfl
    have s0 : m32_9 N (n + 1 + 1 + 1 + 1) true 0 a b c a b c = m32_9 N (n + 1 + 1 + 1) true 1 a b c a b c := by
      rw [m32_9_succ]
      unfold c32_9
      rw [ltI_true (by omega : (0 : Int) < 3), cond_true, q133_same hN a ha]
      rfl
    have s1 : m32_9 N (n + 1 + 1 + 1) true 1 a b c a b c = m32_9 N (n + 1 + 1) true 2 a b c a b c := by
      rw [m32_9_succ]
      unfold c32_9
      rw [ltI_true (by omega : (1 : Int) < 3), cond_true, q133_same hN b hb]
      rfl
    have s2 : m32_9 N (n + 1 + 1) true 2 a b c a b c = m32_9 N (n + 1) true 3 a b c a b c := by
      rw [m32_9_succ]
      unfold c32_9
      rw [ltI_true (by omega : (2 : Int) < 3), cond_true, q133_same hN c hc]
      rfl
    rw [s0, s1, s2, m32_9_succ]
    unfold c32_9
    rw [ltI_false (by omega), cond_false]
  exact e N hn
theorem wire_all_plain (c0 v1 : Int) (v2 : List Row) (v3 : List Pr) (log : Int) : q32 100000 c0 v1 v2 v3 log = some (true, ()) := by
  unfold q32
  rw [wbegun']
  simp only [bsm]
  rw [Bool.not_true, cond_false]
  have hL : ∃ b, q129 100000 c0 v1 v2 v3 = some (b, ()) := by
    unfold q129
    cases leI (↑(List.length v2)) (80 : Int)
    · exact ⟨_, rfl⟩
    · cases leI (↑(List.length v3)) (250 : Int) <;> exact ⟨_, rfl⟩
  obtain ⟨b, hL⟩ := hL
  rw [hL]
  simp only [bsm]
  cases b with
  | false => rfl
  | true =>
    rw [Bool.not_true, cond_false, q130_eq (by omega)]
    simp only [bsm]
    by_cases hm : mayF c0 v1 v2 v3 = 0
    case neg => rw [eqI_false hm]; rfl
    rw [eqI_true hm, Bool.not_true, cond_false]
    have hg := mayF_zero hm
    have hv0 := hg.v0
    obtain ⟨V, rfl⟩ : ∃ V : Nat, v1 = (V : Int) := ⟨v1.toNat, by omega⟩
    have hV := hg.v200
    have hmay : q119 100000 c0 (V : Int) v2 v3 = some (0, ()) := by
      rw [q119_eq (by omega) c0 (V : Int) v2 v3 (by have := hg.rows; omega) (by have := hg.same; omega), hg.may]
    obtain ⟨cl, e4, e5, gc, fc⟩ := classes_eq (c0 := c0) (v2 := v2) (hg.pairs (V := V) rfl) (by have := hg.same; omega) (by omega) (by omega : 100000 ≤ 100000) hmay
    obtain ⟨r, r1, r2, r3⟩ := perms_eq (by omega : 100000 ≤ 100000) hg log
    rw [r1, r2, e4, e5]
    simp only [bsm]
    rw [q133_same (by omega) cl (by rw [gc.len]; omega)]
    simp only [bsm, cond_true]
    rw [eqI_true rfl]
    have hl : r.1.1.length < 2000 ∧ r.1.2.1.length < 2000 ∧ r.1.2.2.1.length < 2000 := by
      rcases r3 with h | ⟨L, _, _, h6, _, _, ⟨a, b, c⟩, _⟩
      · rw [h]; exact ⟨by simp, by simp, by simp⟩
      · have := two_pow_le h6
        exact ⟨by omega, by have := b (by omega); omega, by have := c (by omega); omega⟩
    exact all_32 (by omega) _ _ _ hl.1 hl.2.1 hl.2.2
end Go.Proofs.Ytgimohchocjgcaa.V
