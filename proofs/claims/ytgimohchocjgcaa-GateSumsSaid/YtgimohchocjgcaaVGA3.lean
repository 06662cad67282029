/- What rows come to; the statements GateValues, GateSums, of plain functions. -/
import Derived.Test.YtgimohchocjgcaaVGA2
import Derived.KernelRfl
set_option linter.unusedVariables false
set_option linter.unusedSimpArgs false
namespace Go.Proofs.Ytgimohchocjgcaa.V

theorem gbegun : q105 2000 = some (true, ()) := by kernel_rfl

def Sc (x : Fr) : Prop := fv x < RR
def fmul (x y : Fr) : Fr := frN (fv x * fv y % RR)
def fadd (x y : Fr) : Fr := frN ((fv x + fv y) % RR)
def fsub (x y : Fr) : Fr := frN ((fv x + (RR - fv y)) % RR)

theorem sc_mod (n : Nat) : Sc (frN (n % RR)) := by unfold Sc; rw [fv_mod]; exact mod_lt_RR _
theorem sc_mul (x y : Fr) : Sc (fmul x y) := sc_mod _
theorem sc_add (x y : Fr) : Sc (fadd x y) := sc_mod _
theorem sc_sub (x y : Fr) : Sc (fsub x y) := sc_mod _
theorem sc_zero : Sc Fr.zero := by unfold Sc; decide +kernel
theorem sc_one : Sc ⟨1, 0, 0, 0⟩ := by unfold Sc; decide +kernel
theorem fv_mul (x y : Fr) : Cg (fv (fmul x y)) (fv x * fv y) := by unfold fmul; rw [fv_mod]; exact Cg.mod _
theorem fv_add (x y : Fr) : Cg (fv (fadd x y)) (fv x + fv y) := by unfold fadd; rw [fv_mod]; exact Cg.mod _
theorem fv_sub (x y : Fr) : Cg (fv (fsub x y)) (fv x + (RR - fv y)) := by unfold fsub; rw [fv_mod]; exact Cg.mod _
theorem fvz : fv Fr.zero = 0 := fv_zero

theorem sc_eq {x y : Fr} (hx : Sc x) (hy : Sc y) (h : Cg (fv x) (fv y)) : x = y := by
  unfold Cg at h
  unfold Sc at hx hy
  rw [Nat.mod_eq_of_lt hx, Nat.mod_eq_of_lt hy] at h
  exact fr_ext h

theorem mulF {N : Nat} (hN : 10 < N) {a b : Fr} (ha : Sc a) : q76 N a b = some (fmul a b, ()) := q76_eq' hN ha
theorem mulR {N : Nat} (hN : 10 < N) {a b : Fr} (hb : Sc b) : q94 N a b = some (fmul a b, ()) := q94_eq hN hb
theorem addF {N : Nat} (hN : 10 < N) {a b : Fr} (ha : Sc a) (hb : Sc b) : q80 N a b = some (fadd a b, ()) := q80_eq hN ha hb
theorem addR {N : Nat} (hN : 10 < N) {a b : Fr} (ha : Sc a) (hb : Sc b) : q81 N a b = some (fadd a b, ()) := q81_eq hN ha hb
theorem subF {N : Nat} (hN : 10 < N) {a b : Fr} (ha : Sc a) (hb : Sc b) : q82 N a b = some (fsub a b, ()) := q82_eq hN ha hb
theorem subR {N : Nat} (hN : 10 < N) {a b : Fr} (ha : Sc a) (hb : Sc b) : q83 N a b = some (fsub a b, ()) := q83_eq hN ha hb

theorem q190_eq {N : Nat} (hN : 10 < N) {a b : Fr} (hb : Sc b) : q190 N a b = some (fmul a b, ()) := by
  unfold q190
  rw [mulR hN hb]
  simp only [bsm]

theorem q194_eq {N : Nat} (hN : 10 < N) {a b : Fr} (ha : Sc a) (hb : Sc b) : q194 N a b = some (fadd a b, ()) := by
  unfold q194
  rw [addR hN ha hb]
  simp only [bsm]

/-! ### May -/

def allSc : List Fr → Bool
  | [] => true
  | x :: l => decide (fv x < RR) && allSc l

theorem allSc_mem {l : List Fr} (h : allSc l = true) : ∀ x ∈ l, Sc x := by
  induction l with
  | nil => intro x hx; cases hx
  | cons y l ih =>
    simp only [allSc, Bool.and_eq_true, decide_eq_true_eq] at h
    intro x hx
    rcases List.mem_cons.1 hx with rfl | hx
    · exact h.1
    · exact ih h.2 x hx

theorem allSc_get {l : List Fr} (h : allSc l = true) (i : Nat) : Sc (l.getD i Fr.zero) := by
  rw [List.getD_eq_getElem?_getD]
  cases hi : l[i]? with
  | none => exact sc_zero
  | some x => exact allSc_mem h x (List.mem_of_getElem? hi)

theorem m90_eq (N : Nat) (hN : 10 < N) (l : List Fr) (hl : l.length < 1000000) (most : Int) : ∀ (k n i : Nat), i + k = l.length → k < n → m90_2 N n l most (i : Int) = some (allSc (l.drop i) && leI (l.length : Int) most, ()) := by
  intro k
  induction k with
  | zero =>
    intro n i hi hn
    obtain ⟨n, rfl⟩ : ∃ m, n = m + 1 := ⟨n - 1, by omega⟩
    rw [m90_2_succ]
    unfold c90_2
    rw [ltI_false (by omega), cond_false, List.drop_of_length_le (by omega)]
    rfl
  | succ k ih =>
    intro n i hi hn
    obtain ⟨n, rfl⟩ : ∃ m, n = m + 1 := ⟨n - 1, by omega⟩
    have hd : l.drop i = l.getD i Fr.zero :: l.drop (i + 1) := by
      rw [List.drop_eq_getElem_cons (by omega : i < l.length), List.getD_eq_getElem?_getD, List.getElem?_eq_getElem (by omega : i < l.length)]
      rfl
    rw [m90_2_succ]
    unfold c90_2
    rw [ltI_true (by omega), cond_true, leI_zero, Bool.and_self, mst2, Int.toNat_natCast, q69_eq hN]
    simp only [bsm]
    rw [hd, allSc]
    by_cases h : fv (l.getD i Fr.zero) < RR
    · rw [decide_eq_true h, Bool.not_true, cond_false, wr_add1 (by omega), Bool.true_and]
      exact ih n (i + 1) (by omega) (by omega)
    · rw [decide_eq_false h, Bool.not_false, cond_true, Bool.false_and, Bool.false_and]

theorem q90_eq {N : Nat} (hN : 10 < N) {l : List Fr} (hl : l.length < N) (hb : l.length < 1000000) (most : Int) : q90 N l most = some (allSc l && leI (l.length : Int) most, ()) :=
  m90_eq N hN l hb most l.length N 0 (by omega) hl

/-! ### Values -/

def vsum (q t : List Fr) : Nat → Nat → Fr → Fr
  | 0, _, s => s
  | k + 1, i, s => vsum q t k (i + 1) (fadd s (fmul (q.getD i Fr.zero) (t.getD i Fr.zero)))

theorem m106_eq (N : Nat) (hN : 10 < N) (q t : List Fr) (z : Fr) (hq : q.length = 8) (ht : t.length = 8) (hs : ∀ i, Sc (q.getD i Fr.zero)) : ∀ (k n i : Nat) (s : Fr), i + k = 8 → k < n → Sc s → m106_4 N n t (i : Int) q z s = some (vsum q t k i s, ()) := by
  intro k
  induction k with
  | zero =>
    intro n i s hi hn hss
    obtain ⟨n, rfl⟩ : ∃ m, n = m + 1 := ⟨n - 1, by omega⟩
    rw [m106_4_succ]
    unfold c106_4
    rw [ltI_false (by omega), cond_false]
    rfl
  | succ k ih =>
    intro n i s hi hn hss
    obtain ⟨n, rfl⟩ : ∃ m, n = m + 1 := ⟨n - 1, by omega⟩
    rw [m106_4_succ]
    unfold c106_4
    rw [ltI_true (show (i : Int) < 8 by omega), cond_true, leI_zero, ht, ltI_true (show (i : Int) < ((8 : Nat) : Int) by omega), Bool.and_self, Bool.and_self, mst2, mst2, Int.toNat_natCast, mulF hN (hs i)]
    simp only [bsm]
    rw [addF hN hss (sc_mul _ _), wr_add1 (by omega)]
    exact ih n (i + 1) _ (by omega) (by omega) (sc_add _ _)

theorem m107_eq (N : Nat) (hN : 10 < N) (q t : List Fr) (z : Fr) (hq : q.length = 8) (ht : t.length = 8) (hs : ∀ i, Sc (t.getD i Fr.zero)) : ∀ (k n i : Nat) (s : Fr), i + k = 8 → k < n → Sc s → m107_5 N n (i : Int) q z t s = some (vsum q t k i s, ()) := by
  intro k
  induction k with
  | zero =>
    intro n i s hi hn hss
    obtain ⟨n, rfl⟩ : ∃ m, n = m + 1 := ⟨n - 1, by omega⟩
    rw [m107_5_succ]
    unfold c107_5
    rw [ltI_false (by omega), cond_false]
    rfl
  | succ k ih =>
    intro n i s hi hn hss
    obtain ⟨n, rfl⟩ : ∃ m, n = m + 1 := ⟨n - 1, by omega⟩
    rw [m107_5_succ]
    unfold c107_5
    rw [ltI_true (show (i : Int) < 8 by omega), cond_true, leI_zero, ltI_true (show (i : Int) < ((8 : Nat) : Int) by omega), Bool.and_self, mst2, mst2, Int.toNat_natCast, q190_eq hN (hs i)]
    simp only [bsm]
    rw [q194_eq hN hss (sc_mul _ _), wr_add1 (by omega)]
    exact ih n (i + 1) _ (by omega) (by omega) (sc_add _ _)

/-- What selectors stand ahead of. -/
def wl (a b c nx : Fr) : List Fr := [fmul a b, a, b, c, ⟨1, 0, 0, 0⟩, fsub (fmul a a) a, fsub (fmul (fmul (fmul a a) (fmul a a)) a) c, fsub (fadd a b) nx]

def gval (q : List Fr) (a b c nx : Fr) : Fr := vsum q (wl a b c nx) 8 0 Fr.zero

theorem wl_sc {a b c nx : Fr} (ha : Sc a) (hb : Sc b) (hc : Sc c) : ∀ i, Sc ((wl a b c nx).getD i Fr.zero) := by
  intro i
  match i with
  | 0 => exact sc_mul _ _
  | 1 => exact ha
  | 2 => exact hb
  | 3 => exact hc
  | 4 => exact sc_one
  | 5 => exact sc_sub _ _
  | 6 => exact sc_sub _ _
  | 7 => exact sc_sub _ _
  | n + 8 => exact sc_zero

theorem q193_eq {N : Nat} (hN : 10 < N) {a : Fr} (ha : Sc a) : q193 N a = some (fmul (fmul (fmul a a) (fmul a a)) a, ()) := by
  unfold q193
  rw [mulF hN ha]
  simp only [bsm]
  rw [mulF hN (sc_mul _ _)]
  simp only [bsm]
  rw [mulF hN (sc_mul _ _)]
  simp only [bsm]

theorem q106_eq {N : Nat} (hN : 10 < N) {q : List Fr} {a b c nx : Fr} (hq : q.length = 8) (hs : ∀ i, Sc (q.getD i Fr.zero)) (ha : Sc a) (hb : Sc b) (hc : Sc c) (hn : Sc nx) : q106 N q a b c nx = some (gval q a b c nx, ()) := by
  unfold q106
  rw [hq, show Nat.beq 8 8 = true from rfl, mst2, mulF hN ha, q75_is, mulF hN ha]
  simp only [bsm]
  rw [subF hN (sc_mul _ _) ha, q193_eq hN ha]
  simp only [bsm]
  rw [subF hN (sc_mul _ _) hc, addF hN ha hb]
  simp only [bsm]
  rw [subF hN (sc_add _ _) hn]
  simp only [bsm]
  exact m106_eq N hN q (wl a b c nx) Fr.zero hq rfl hs 8 N 0 Fr.zero rfl (by omega) sc_zero

theorem q107_eq {N : Nat} (hN : 10 < N) {q : List Fr} {a b c nx : Fr} (hq : q.length = 8) (ha : Sc a) (hb : Sc b) (hc : Sc c) (hn : Sc nx) : q107 N q a b c nx = some (gval q a b c nx, ()) := by
  unfold q107
  rw [hq, show Nat.beq 8 8 = true from rfl, mst2, q190_eq hN ha, q190_eq hN hb, q173_is]
  simp only [bsm]
  rw [subR hN (sc_mul _ _) ha, q190_eq hN (sc_mul _ _)]
  simp only [bsm]
  rw [q190_eq hN ha]
  simp only [bsm]
  rw [subR hN (sc_mul _ _) hc, q194_eq hN ha hb]
  simp only [bsm]
  rw [subR hN (sc_add _ _) hn]
  simp only [bsm]
  exact m107_eq N hN q (wl a b c nx) Fr.zero hq rfl (wl_sc ha hb hc) 8 N 0 Fr.zero rfl (by omega) sc_zero

theorem take8 {q : List Fr} (h : q.length = 8) : List.take (Int.toNat (((8 : Nat) : Int) - 0)) q = q := List.take_of_length_le (by rw [h]; decide)

theorem gate_values_plain (q : List Fr) (a b c nx : Fr) (hq : q.length = 8) : q23 2000 q a b c nx = some (true, ()) := by
  have hN : 10 < 2000 := by omega
  unfold q23
  rw [hq, show Nat.beq 8 8 = true from rfl, mst2, gbegun]
  simp only [bsm]
  rw [Bool.not_true, cond_false, take8 hq, q90_eq hN (by omega) (by omega)]
  simp only [bsm]
  cases h1 : (allSc q && leI (q.length : Int) 8) with
  | false => rw [Bool.not_false, cond_true]
  | true =>
    rw [Bool.not_true, cond_false, q90_eq (l := [a, b, c, nx]) hN (show 4 < 2000 by omega) (show 4 < 1000000 by omega)]
    simp only [bsm]
    cases h2 : (allSc [a, b, c, nx] && leI (([a, b, c, nx] : List Fr).length : Int) 4) with
    | false => rw [Bool.not_false, cond_true]
    | true =>
      rw [Bool.and_eq_true] at h1 h2
      have hm := allSc_mem h2.1
      have ha := hm a (by simp)
      have hb := hm b (by simp)
      have hc := hm c (by simp)
      have hn := hm nx (by simp)
      rw [Bool.not_true, cond_false, q106_eq hN hq (allSc_get h1.1) ha hb hc hn, q107_eq hN hq ha hb hc hn]
      simp only [bsm, eqF_self]

/-! ### Sums of values -/

def nsum (q t : List Fr) : Nat → Nat → Nat
  | 0, _ => 0
  | k + 1, i => fv (q.getD i Fr.zero) * fv (t.getD i Fr.zero) + nsum q t k (i + 1)

theorem vsum_cg (q t : List Fr) : ∀ (k i : Nat) (s : Fr), Cg (fv (vsum q t k i s)) (fv s + nsum q t k i) := by
  intro k
  induction k with
  | zero => intro i s; exact Cg.rfl'
  | succ k ih =>
    intro i s
    refine (ih (i + 1) _).trans ?_
    refine ((fv_add _ _).add Cg.rfl').trans ?_
    refine ((Cg.rfl'.add (fv_mul _ _)).add Cg.rfl').trans (Cg.of_eq ?_)
    simp only [nsum]
    omega

theorem vsum_sc (q t : List Fr) : ∀ (k i : Nat) (s : Fr), Sc s → Sc (vsum q t k i s) := by
  intro k
  induction k with
  | zero => intro i s h; exact h
  | succ k ih => intro i s h; exact ih (i + 1) _ (sc_add _ _)

theorem gval_sc (q : List Fr) (a b c nx : Fr) : Sc (gval q a b c nx) := vsum_sc _ _ _ _ _ sc_zero

theorem nsum_lin (p q s t : List Fr) (K : Nat) (h : ∀ i, i < 8 → Cg (fv (s.getD i Fr.zero)) (fv (p.getD i Fr.zero) + K * fv (q.getD i Fr.zero))) : ∀ (k i : Nat), i + k ≤ 8 → Cg (nsum s t k i) (nsum p t k i + K * nsum q t k i) := by
  intro k
  induction k with
  | zero => intro i _; exact Cg.rfl'
  | succ k ih =>
    intro i hi
    simp only [nsum]
    refine (((h i (by omega)).mul Cg.rfl').add (ih (i + 1) (by omega))).trans (Cg.of_eq ?_)
    rw [Nat.add_mul, Nat.mul_add, Nat.mul_assoc]
    omega

theorem nsum_zero (q t : List Fr) (h : ∀ i, fv (q.getD i Fr.zero) = 0) : ∀ (k i : Nat), nsum q t k i = 0 := by
  intro k
  induction k with
  | zero => intro i; rfl
  | succ k ih => intro i; simp only [nsum]; rw [h, ih, Nat.zero_mul]

theorem m25_eq (N : Nat) (hN : 10 < N) (p q : List Fr) (K a b c nx : Fr) (hp : ∀ i, Sc (p.getD i Fr.zero)) (hq : ∀ i, Sc (q.getD i Fr.zero)) : ∀ (k n i : Nat) (l : List Fr), i + k = 8 → k < n → l.length = 8 →
    (∀ j, j < i → l.getD j Fr.zero = fadd (p.getD j Fr.zero) (fmul K (q.getD j Fr.zero))) →
    ∃ (l' : List Fr) (n' : Nat), l'.length = 8 ∧ (∀ j, j < 8 → l'.getD j Fr.zero = fadd (p.getD j Fr.zero) (fmul K (q.getD j Fr.zero))) ∧ m25_7 N n (i : Int) p q K a b c nx l = m25_7 N (n' + 1) 8 p q K a b c nx l' := by
  intro k
  induction k with
  | zero =>
    intro n i l hi hn hl h
    obtain ⟨n, rfl⟩ : ∃ m, n = m + 1 := ⟨n - 1, by omega⟩
    obtain rfl : i = 8 := by omega
    exact ⟨l, n, hl, h, rfl⟩
  | succ k ih =>
    intro n i l hi hn hl h
    obtain ⟨n, rfl⟩ : ∃ m, n = m + 1 := ⟨n - 1, by omega⟩
    rw [m25_7_succ]
    unfold c25_7
    rw [ltI_true (show (i : Int) < 8 by omega), cond_true, leI_zero, ltI_true (show (i : Int) < ((8 : Nat) : Int) by omega), Bool.and_self, mst2, mst2, Int.toNat_natCast, mulR hN (hq i)]
    simp only [bsm]
    rw [addR hN (hp i) (sc_mul _ _)]
    simp only [bsm]
    rw [mst2, wr_add1 (by omega)]
    refine ih n (i + 1) _ (by omega) (by omega) (by rw [length_setL]; exact hl) fun j hj => ?_
    rw [getD_setL]
    by_cases hji : j = i
    · rw [if_pos ⟨hji, by omega⟩, hji]
    · rw [if_neg (fun h => hji h.1)]
      exact h j (by omega)

theorem gate_sums_plain (p q : List Fr) (K a b c nx : Fr) (hp : p.length = 8) (hq : q.length = 8) : q25 2000 p q K a b c nx = some (true, ()) := by
  have hN : 10 < 2000 := by omega
  unfold q25
  rw [hp, hq, show Nat.beq 8 8 = true from rfl, mst2, mst2, gbegun]
  simp only [bsm]
  rw [Bool.not_true, cond_false, take8 hp, take8 hq, q90_eq hN (by omega) (by omega)]
  simp only [bsm]
  cases h1 : (allSc p && leI (p.length : Int) 8) with
  | false => rw [Bool.not_false, cond_true]
  | true =>
    rw [Bool.not_true, cond_false, q90_eq hN (by omega) (by omega)]
    simp only [bsm]
    cases h2 : (allSc q && leI (q.length : Int) 8) with
    | false => rw [Bool.not_false, cond_true]
    | true =>
      rw [Bool.not_true, cond_false, q90_eq (l := [K, a, b, c, nx]) hN (show 5 < 2000 by omega) (show 5 < 1000000 by omega)]
      simp only [bsm]
      cases h3 : (allSc [K, a, b, c, nx] && leI (([K, a, b, c, nx] : List Fr).length : Int) 5) with
      | false => rw [Bool.not_false, cond_true]
      | true =>
        rw [Bool.and_eq_true] at h1 h2 h3
        have hm := allSc_mem h3.1
        have hK := hm K (by simp)
        have ha := hm a (by simp)
        have hb := hm b (by simp)
        have hc := hm c (by simp)
        have hn := hm nx (by simp)
        have hps := allSc_get h1.1
        have hqs := allSc_get h2.1
        obtain ⟨l, n, hl1, hl2, hl3⟩ := m25_eq 2000 hN p q K a b c nx hps hqs 8 2000 0 [Fr.zero, Fr.zero, Fr.zero, Fr.zero, Fr.zero, Fr.zero, Fr.zero, Fr.zero] rfl (by omega) rfl (fun j hj => by omega)
        have hls : ∀ i, Sc (l.getD i Fr.zero) := fun i => by
          by_cases hi : i < 8
          · rw [hl2 i hi]; exact sc_add _ _
          · rw [List.getD_eq_getElem?_getD, List.getElem?_eq_none (by omega)]; exact sc_zero
        have hzs : ∀ i, ([Fr.zero, Fr.zero, Fr.zero, Fr.zero, Fr.zero, Fr.zero, Fr.zero, Fr.zero] : List Fr).getD i Fr.zero = Fr.zero := fun i => by
          match i with
          | 0 => rfl
          | 1 => rfl
          | 2 => rfl
          | 3 => rfl
          | 4 => rfl
          | 5 => rfl
          | 6 => rfl
          | 7 => rfl
          | n + 8 => rfl
        have key : gval l a b c nx = fadd (gval p a b c nx) (fmul K (gval q a b c nx)) := by
          refine sc_eq (vsum_sc _ _ _ _ _ sc_zero) (sc_add _ _) ?_
          refine (vsum_cg _ _ _ _ _).trans ?_
          refine Cg.trans ?_ ((fv_add _ _).trans (Cg.rfl'.add (fv_mul _ _))).symm
          refine Cg.trans ?_ ((vsum_cg p (wl a b c nx) 8 0 Fr.zero).add (Cg.rfl'.mul (vsum_cg q (wl a b c nx) 8 0 Fr.zero))).symm
          refine (Cg.rfl'.add (nsum_lin p q l (wl a b c nx) (fv K) (fun i hi => ?_) 8 0 (by omega))).trans (Cg.of_eq ?_)
          · rw [hl2 i hi]
            exact (fv_add _ _).trans (Cg.rfl'.add (fv_mul _ _))
          · rw [fvz, Nat.zero_add, Nat.zero_add, Nat.zero_add]
        have kz : gval [Fr.zero, Fr.zero, Fr.zero, Fr.zero, Fr.zero, Fr.zero, Fr.zero, Fr.zero] a b c nx = Fr.mk 0 0 0 0 := by
          refine sc_eq (vsum_sc _ _ _ _ _ sc_zero) sc_zero ?_
          refine (vsum_cg _ _ _ _ _).trans (Cg.of_eq ?_)
          rw [nsum_zero _ _ (fun i => by rw [hzs]; exact fvz)]
          rfl
        rw [Bool.not_true, cond_false]
        refine hl3.trans ?_
        rw [m25_7_succ]
        unfold c25_7
        rw [ltI_false (by omega), cond_false, q106_eq hN hl1 hls ha hb hc hn, q106_eq hN hp hps ha hb hc hn, q106_eq hN hq hqs ha hb hc hn]
        simp only [bsm]
        rw [mulR hN (gval_sc q a b c nx)]
        simp only [bsm]
        rw [addR hN (gval_sc p a b c nx) (sc_mul _ _)]
        simp only [bsm]
        rw [eqF_true key, cond_true, q106_eq hN rfl (fun i => by rw [hzs]; exact sc_zero) ha hb hc hn]
        simp only [bsm]
        rw [eqF_true kz]

end Go.Proofs.Ytgimohchocjgcaa.V
