import Derived.Test.YtgimohchocjgcaaVFS
import Derived.KernelRfl
import Derived.Test.YtgimohchocjgcaaVUM
import Derived.Test.YtgimohchocjgcaaVLR
import Derived.Test.YtgimohchocjgcaaVWA0
set_option linter.unusedVariables false
set_option linter.unusedSimpArgs false
namespace Go.Proofs.Ytgimohchocjgcaa.V
section
theorem alg5 (B A1 A2 A3 P x y c s d : Nat) (hv : A1 + A3 = A2 + P * c) (h3 : s + y + c = x + B * d) : A1 + P * s + (A3 + P * y) = A2 + P * x + P * B * d := by
  have e : P * (s + y + c) = P * (x + B * d) := by rw [h3]
  grind
theorem zvX {a b : Nat} (ha : a < RR) (hb : b < RR) : (a + (RR - b)) % RR = if b <= a then a - b else a + RR - b := by
  split
  . rw [show a + (RR - b) = (a - b) + RR by omega, Nat.add_mod_right, Nat.mod_eq_of_lt (by omega)]
  . rw [Nat.mod_eq_of_lt (by omega)]; omega
theorem zqK (N : Nat) (a b : List UInt64) (ha : a.length = 4) (hb : b.length = 4) : ∀ (k n j : Nat) (c : UInt64) (t : List UInt64), j + k = 4 -> k < n -> t.length = 4 -> c.toNat <= 1 ->
    lv (t.take j) + lv (b.take j) = lv (a.take j) + 18446744073709551616 ^ j * c.toNat ->
    ∃ (c' : UInt64) (t' : List UInt64) (n' : Nat), t'.length = 4 /\ c'.toNat <= 1 /\ lv t' + lv b = lv a + 18446744073709551616 ^ 4 * c'.toNat /\ zfo N n a b mL c (j : Int) t = zfo N (n' + 1) a b mL c' 4 t' := by
  intro k
  induction k with
  | zero =>
    intro n j c t hj hn ht hc hv
    obtain ⟨n, rfl⟩ : ∃ m, n = m + 1 := ⟨n - 1, by omega⟩
    obtain rfl : j = 4 := by omega
    rw [List.take_of_length_le (l := t) (by omega), List.take_of_length_le (l := a) (by omega), List.take_of_length_le (l := b) (by omega)] at hv
    exact ⟨c, t, n, ht, hc, hv, rfl⟩
  | succ k ih =>
    intro n j c t hj hn ht hc hv
    obtain ⟨n, rfl⟩ : ∃ m, n = m + 1 := ⟨n - 1, by omega⟩
    obtain ⟨s, d, h1, h2, h3⟩ := zlo (x := a.getD j 0) (y := b.getD j 0) hc
    rw [zgF]
    unfold zhR
    rw [show List.length mL = 4 from rfl, zaa (show (j : Int) < ((4 : Nat) : Int) by omega), cond_true, zap (by omega)]
    simp only [zbt, zae, Int.toNat_natCast]
    rw [zax (show j < a.length by omega), zax (show j < b.length by omega), zax (show j < t.length by omega)]
    simp only [Bool.and_self, mst2, h1, bsm]
    refine ih n (j + 1) _ _ (by omega) (by omega) (by rw [zaw]; exact ht) h2 ?_
    rw [zaP _ _ (by omega), zag a, zag b, Nat.pow_succ]
    exact alg5 _ _ _ _ _ _ _ _ _ _ hv h3
theorem znB (N : Nat) (t0 : List UInt64) : ∀ (k n j : Nat) (c : UInt64) (t : List UInt64), j + k = 4 -> k < n -> t.length = 4 -> c.toNat <= 1 -> (∀ p, j <= p -> t.getD p 0 = t0.getD p 0) ->
    lv (t.take j) + 18446744073709551616 ^ j * c.toNat = lv (t0.take j) + lv (mL.take j) ->
    ∃ (c' : UInt64) (r : List UInt64), c'.toNat <= 1 /\ r.length = 4 /\ lv r + 18446744073709551616 ^ 4 * c'.toNat = lv (t0.take 4) + RR /\ zeX N n mL c (j : Int) t = some (r, ()) := by
  intro k
  induction k with
  | zero =>
    intro n j c t hj hn ht hc hp hv
    obtain ⟨n, rfl⟩ : ∃ m, n = m + 1 := ⟨n - 1, by omega⟩
    obtain rfl : j = 4 := by omega
    rw [List.take_of_length_le (l := t) (by omega), show List.take 4 mL = mL from rfl, zhb] at hv
    refine ⟨c, t, hc, ht, hv, ?_⟩
    rw [zfn]
    unfold zeW
    rw [show List.length mL = 4 from rfl, zab (by omega), cond_false]
  | succ k ih =>
    intro n j c t hj hn ht hc hp hv
    obtain ⟨n, rfl⟩ : ∃ m, n = m + 1 := ⟨n - 1, by omega⟩
    obtain ⟨s, d, h1, h2, h3⟩ := zdj (x := t.getD j 0) (y := mL.getD j 0) hc
    rw [zfn]
    unfold zeW
    rw [show List.length mL = 4 from rfl, zaa (show (j : Int) < ((4 : Nat) : Int) by omega), cond_true, zap (by omega)]
    rw [ht, zaa (show (j : Int) < ((4 : Nat) : Int) by omega)]
    simp only [zae, Int.toNat_natCast, Bool.and_self, mst2, h1, bsm]
    refine ih n (j + 1) _ _ (by omega) (by omega) (by rw [zaw]; exact ht) h2 ?_ ?_
    . intro p h
      rw [za2, if_neg (by omega)]
      exact hp p (by omega)
    . rw [zaP _ _ (by omega), zag t0, zag mL, Nat.pow_succ, ← hp j (Nat.le_refl _)]
      exact zmA.alg4 _ _ _ _ _ _ _ _ _ _ hv h3
theorem zvY {N : Nat} (hN : 10 < N) {a b : List UInt64} (ha : a.length = 4) (hb : b.length = 4) (hal : lv a < RR) (hbl : lv b < RR) : ∃ r, q177 N a b mL = some (r, ()) /\ r.length = 4 /\ lv r = (lv a + (RR - lv b)) % RR := by
  have hRR := zvU
  obtain ⟨c', t', n', h1, h2, h3, h4⟩ := zqK N a b ha hb 4 N 0 0 [0, 0, 0, 0] rfl (by omega) rfl (by decide) (by simp [lv])
  have hq : q177 N a b mL = zfo N N a b mL 0 ((0 : Nat) : Int) [0, 0, 0, 0] := by
    unfold q177
    rw [show List.length mL = 4 from rfl, Int.toNat_natCast, zaN rfl, zaI (by omega)]
    simp only [Bool.and_self, mst2]
    rfl
  have htl := zha t'
  rw [h1] at htl
  rw [hq, h4, zgF]
  unfold zhR
  rw [show List.length mL = 4 from rfl, zab (by omega), cond_false, zvX hal hbl]
  by_cases hc : c' = 1
  . rw [hc] at h3 ⊢
    rw [show UInt64.toNat 1 = 1 from rfl] at h3
    rw [beq_self_eq_true, cond_true]
    obtain ⟨c2, r, g1, g4, g2, g3⟩ := znB N t' 4 N 0 0 t' rfl (by omega) h1 (by decide) (fun _ _ => rfl) (by simp [lv])
    rw [List.take_of_length_le (by omega)] at g2
    have hrl := zha r
    rw [g4] at hrl
    rw [if_neg (by omega)]
    exact ⟨r, g3, g4, by omega⟩
  . have hc0 : c'.toNat = 0 := by
      have : c'.toNat ≠ 1 := fun h => hc (UInt64.toNat_inj.1 h)
      omega
    rw [hc0] at h3
    rw [beq_eq_false_iff_ne.2 hc, cond_false, if_pos (by omega)]
    exact ⟨t', rfl, h1, by omega⟩
theorem zyI {N : Nat} (hN : 10 < N) {a b : Fr} (ha : fv a < RR) (hb : fv b < RR) : q83 N a b = some (frN ((fv a + (RR - fv b)) % RR), ()) := by
  obtain ⟨r, h1, h2, h3⟩ := zvY hN (a := a.l) (b := b.l) rfl rfl ha hb
  have hq : q83 N a b = Option.bind (q177 N a.l b.l mL) fun r1 => Option.bind (q175 N r1.1) fun r2 => some ((Prod.fst r2, ())) := rfl
  rw [hq, h1]
  simp only [bsm]
  rw [zlx (by omega)]
  simp only [bsm]
  rw [h3]
  rfl
theorem zqL : fv ⟨0, 0, 0, 0⟩ = 0 := by decide
theorem zcW (n : UInt64) : fv ⟨n, 0, 0, 0⟩ = n.toNat := by simp [fv, Fr.l, lv]
theorem zyJ : 0 < RR := by decide
theorem zt0 {N : Nat} (hN : 10 < N) {a : Fr} (ha : fv a < RR) : q85 N a = some (frN ((RR - fv a) % RR), ()) := by
  unfold q85
  rw [zyI hN (by rw [zqL]; exact zyJ) ha, zqL, Nat.zero_add]
  rfl
theorem zyK {N : Nat} (hN : 10 < N) (a : Fr) : q69 N a = some (decide (fv a < RR), ()) := by
  have hq : q69 N a = Option.bind (q168 N a.l mL) fun r1 => some ((Prod.fst r1, ())) := rfl
  rw [hq, zlr (N := N) (a := a.l) (m := mL) (by decide) rfl (by show 4 < N; omega), zhb]
  rfl
theorem zvZ (x y : Nat) : ltI (cmpN x y) 0 = decide (x < y) := by
  unfold cmpN
  split
  . rename_i h; rw [decide_eq_true h]; rfl
  . rename_i h
    rw [decide_eq_false h]
    split <;> rfl
theorem zyL {N : Nat} (hN : 10 < N) (a : Fr) : q79 N a = some (decide (fv a < RR), ()) := by
  have hq : q79 N a = Option.bind (q61 N a.l mL) fun r1 => some (((ltI r1.1 (0 : Int)), ())) := rfl
  rw [hq, zyD (N := N) (a := a.l) (b := mL) (show (4 : Nat) < 1000000 by omega) (show (4 : Nat) < 1000000 by omega) (show max 4 4 < N by omega), zhb]
  simp only [bsm]
  rw [zvZ]
  rfl
theorem zv0 {N : Nat} (hN : 10 < N) {a b : Fr} (ha : fv a < RR) : q76 N a b = some (frN (fv a * fv b % RR), ()) := by
  obtain ⟨r, h1, h2⟩ := zyF hN (b := b) ha
  rw [h1, zmz h2]
theorem zyM (e : List UInt64) (i : Nat) : ((zaT (e.getD (i / 64) 0) (i % 64) &&& 1) == 1) = decide (lv e / 2 ^ i % 2 = 1) := by
  have h : (zaT (e.getD (i / 64) 0) (i % 64) &&& 1).toNat = lv e / 2 ^ i % 2 := by
    rw [zqz, zdk, zgH, zgH, zqy]
  rw [Bool.eq_iff_iff, beq_iff_eq, decide_eq_true_iff, ← h, ← UInt64.toNat_inj]
  rfl
theorem zqM (a E i M : Nat) : (a ^ (E / 2 ^ (i + 1)) * a ^ (E / 2 ^ (i + 1)) * (if E / 2 ^ i % 2 = 1 then a else 1)) = a ^ (E / 2 ^ i) := by
  have e : E / 2 ^ i = 2 * (E / 2 ^ (i + 1)) + E / 2 ^ i % 2 := by
    rw [Nat.pow_succ, ← Nat.div_div_eq_div_mul]; omega
  have h2 : E / 2 ^ i % 2 = 0 \/ E / 2 ^ i % 2 = 1 := by omega
  rw [← Nat.pow_add]
  rcases h2 with h | h
  . rw [h, if_neg (by omega), Nat.mul_one]; congr 1; omega
  . rw [h, if_pos rfl, ← Nat.pow_succ]; congr 1; omega
def Cg (a b : Nat) : Prop := a % RR = b % RR
theorem Cg.rfl' {a : Nat} : Cg a a := rfl
theorem Cg.symm {a b : Nat} (h : Cg a b) : Cg b a := Eq.symm h
theorem Cg.trans {a b c : Nat} (h : Cg a b) (g : Cg b c) : Cg a c := Eq.trans h g
theorem Cg.mul {a b c d : Nat} (h1 : Cg a b) (h2 : Cg c d) : Cg (a * c) (b * d) := by
  unfold Cg at *
  rw [Nat.mul_mod, h1, h2, ← Nat.mul_mod]
theorem Cg.add {a b c d : Nat} (h1 : Cg a b) (h2 : Cg c d) : Cg (a + c) (b + d) := by
  unfold Cg at *
  rw [Nat.add_mod, h1, h2, ← Nat.add_mod]
theorem Cg.pow {a b : Nat} (h1 : Cg a b) (n : Nat) : Cg (a ^ n) (b ^ n) := by
  induction n with
  | zero => exact Cg.rfl'
  | succ n ih => rw [Nat.pow_succ, Nat.pow_succ]; exact ih.mul h1
theorem Cg.mod (a : Nat) : Cg (a % RR) a := Nat.mod_mod _ _
theorem Cg.of_eq {a b : Nat} (h : a = b) : Cg a b := by rw [h]; exact Cg.rfl'
theorem Cg.lt {a b : Nat} (h : Cg a b) (ha : a < RR) : a = b % RR := by
  unfold Cg at h
  rw [← h, Nat.mod_eq_of_lt ha]
theorem cgB (x : Nat) : Cg (x * (18446744073709551616 ^ 4 * Binv)) x := by
  have : Cg (18446744073709551616 ^ 4 * Binv) 1 := by unfold Cg; rw [ziR]; decide
  have h := (Cg.rfl' (a := x)).mul this
  rwa [Nat.mul_one] at h
theorem zsU (p q B C : Nat) : p * B * (q * B) * C = p * q * B * (B * C) := by grind
theorem zmB {x y p q : Nat} (hx : Cg x (p * 18446744073709551616 ^ 4)) (hy : Cg y (q * 18446744073709551616 ^ 4)) : Cg (x * y * Binv % RR) (p * q * 18446744073709551616 ^ 4) :=
  (Cg.mod _).trans (((hx.mul hy).mul Cg.rfl').trans ((Cg.of_eq (zsU p q _ Binv)).trans (cgB _)))
theorem zyN {N : Nat} (hN : 10 < N) (a : Nat) (e z : List UInt64) (he : e.length < 1000) (u : Fr) (hu : fv u < RR) (hu2 : Cg (fv u) (a * 18446744073709551616 ^ 4)) : ∀ (i n : Nat) (x : Fr), i < n -> i <= 64 * e.length -> fv x < RR -> Cg (fv x) (a ^ (lv e / 2 ^ i) * 18446744073709551616 ^ 4) ->
    zdx N n e (i : Int) z u.l x.l = some (frN (a ^ lv e % RR), ()) := by
  intro i
  induction i with
  | zero =>
    intro n x hn hi hx hx2
    obtain ⟨n, rfl⟩ : ∃ m, n = m + 1 := ⟨n - 1, by omega⟩
    obtain ⟨r, h1, h2⟩ := zvR hN hx
    have e1 : wr (((0 : Nat) : Int) - 1) = -1 := by decide
    rw [zev]
    unfold zdw
    rw [e1, zaa (by omega), cond_true, show Fr.of? x.l = some x from rfl]
    simp only [bsm]
    rw [h1]
    simp only [bsm]
    have : r = frN (a ^ lv e % RR) := zmz (by
      rw [h2]
      rw [Nat.pow_zero, Nat.div_one] at hx2
      exact ((hx2.mul Cg.rfl').trans ((Cg.of_eq (Nat.mul_assoc _ _ _)).trans (cgB _))))
    rw [← this]
  | succ i ih =>
    intro n x hn hi hx hx2
    obtain ⟨n, rfl⟩ : ∃ m, n = m + 1 := ⟨n - 1, by omega⟩
    obtain ⟨y, h1, h2⟩ := zgI hN (a := x) (b := x) hx
    have hy : fv y < RR := by rw [h2]; exact zbn _
    have hy2 : Cg (fv y) (a ^ (lv e / 2 ^ (i + 1)) * a ^ (lv e / 2 ^ (i + 1)) * 18446744073709551616 ^ 4) := by rw [h2]; exact zmB hx2 hx2
    obtain ⟨w, g1, g2⟩ := zgI hN (a := y) (b := u) hy
    have hw : fv w < RR := by rw [g2]; exact zbn _
    have hw2 : Cg (fv w) (a ^ (lv e / 2 ^ (i + 1)) * a ^ (lv e / 2 ^ (i + 1)) * a * 18446744073709551616 ^ 4) := by rw [g2]; exact zmB hy2 hu2
    have hpb := zqM a (lv e) i 0
    have t1 : wr (Int.tdiv (i : Int) 64) = ((i / 64 : Nat) : Int) := by rw [show Int.tdiv (i : Int) 64 = ((i / 64 : Nat) : Int) from rfl, zaX (by omega) (by omega)]
    have t2 : (u64I (Int.tmod (i : Int) 64)).toNat = i % 64 := by rw [show Int.tmod (i : Int) 64 = ((i % 64 : Nat) : Int) from rfl, ziQ (by omega)]
    rw [zev]
    unfold zdw
    rw [ziO (by omega), zab (by omega), cond_false, show Fr.of? x.l = some x from rfl, show Fr.of? u.l = some u from rfl]
    simp only [bsm]
    rw [h1]
    simp only [bsm]
    rw [t1, t2, zae, zaa (by omega), Int.toNat_natCast, zyM]
    simp only [Bool.and_self, mst2]
    by_cases hb : lv e / 2 ^ i % 2 = 1
    . rw [decide_eq_true hb, cond_true, g1]
      simp only [bsm]
      rw [if_pos hb] at hpb
      rw [hpb] at hw2
      exact ih n w (by omega) (by omega) hw hw2
    . rw [decide_eq_false hb, cond_false]
      rw [if_neg hb, Nat.mul_one] at hpb
      rw [hpb] at hy2
      exact ih n y (by omega) (by omega) hy hy2
theorem zt1 {N : Nat} {a : Fr} {e : List UInt64} (ha : fv a < RR) (he : 64 * e.length + 100 < N) (he2 : e.length < 1000) : q72 N a e = some (frN (fv a ^ lv e % RR), ()) := by
  obtain ⟨u, h1, h2⟩ := zlq (N := N) (by omega) ha
  obtain ⟨x, g1, g2⟩ := zlq (N := N) (a := ⟨1, 0, 0, 0⟩) (by omega) (by rw [zcW]; decide)
  unfold q72
  rw [h1]
  simp only [bsm]
  rw [g1]
  simp only [bsm]
  rw [show wr (64 * (e.length : Int)) = ((64 * e.length : Nat) : Int) by rw [zaX (by omega) (by omega)]; omega]
  have hlt : lv e / 2 ^ (64 * e.length) = 0 := by
    apply Nat.div_eq_of_lt
    have := zha e
    rw [Nat.pow_mul]
    exact this
  exact zyN (by omega) (fv a) e [0, 0, 0, 0] he2 u (by rw [h2]; exact zbn _) (by rw [h2]; exact Cg.mod _) (64 * e.length) N x (by omega) (Nat.le_refl _) (by rw [g2]; exact zbn _) (by rw [g2, hlt, Nat.pow_zero, zcW]; exact Cg.mod _)
theorem zyO {N : Nat} (hN : 10 < N) (a : Fr) (ha : fv a < RR) (e z : List UInt64) (he : e.length < 1000) : ∀ (i n : Nat) (x : Fr), i < n -> i <= 64 * e.length -> fv x < RR -> Cg (fv x) (fv a ^ (lv e / 2 ^ i)) ->
    znt N n e ((i : Int) - 1) a.l z x.l = some (frN (fv a ^ lv e % RR), ()) := by
  intro i
  induction i with
  | zero =>
    intro n x hn hi hx hx2
    obtain ⟨n, rfl⟩ : ∃ m, n = m + 1 := ⟨n - 1, by omega⟩
    rw [zhP]
    unfold zns
    rw [zan (by omega), cond_false, show Fr.of? x.l = some x from rfl, show List.length x.l = 4 from rfl, show Nat.beq 4 4 = true from rfl]
    simp only [mst2, bsm]
    rw [Nat.pow_zero, Nat.div_one] at hx2
    have : x = frN (fv a ^ lv e % RR) := zmz (hx2.lt hx)
    rw [← this]
  | succ i ih =>
    intro n x hn hi hx hx2
    obtain ⟨n, rfl⟩ : ∃ m, n = m + 1 := ⟨n - 1, by omega⟩
    have hpb := zqM (fv a) (lv e) i 0
    obtain ⟨b, h1, h2⟩ := zvP (N := N) (a := e) (i := i) (by omega)
    have hy2 : Cg (fv (frN (fv x * fv x % RR))) (fv a ^ (lv e / 2 ^ (i + 1)) * fv a ^ (lv e / 2 ^ (i + 1))) := by rw [zdK]; exact (Cg.mod _).trans (hx2.mul hx2)
    rw [zhP]
    unfold zns
    rw [show ((i + 1 : Nat) : Int) - 1 = (i : Int) by omega, zae, cond_true, show Fr.of? x.l = some x from rfl, show Fr.of? a.l = some a from rfl, zaX (by omega) (by omega)]
    simp only [bsm]
    rw [zqJ hN hx]
    simp only [bsm]
    rw [h1]
    simp only [bsm]
    have hbb : (b == 1) = decide (lv e / 2 ^ i % 2 = 1) := by
      rw [Bool.eq_iff_iff, beq_iff_eq, decide_eq_true_iff, ← h2, ← UInt64.toNat_inj]
      rfl
    rw [hbb]
    by_cases hb : lv e / 2 ^ i % 2 = 1
    . rw [decide_eq_true hb, cond_true, zqJ hN ha]
      simp only [bsm]
      rw [if_pos hb] at hpb
      refine ih n _ (by omega) (by omega) (by rw [zdK]; exact zbn _) ?_
      rw [zdK, ← hpb]
      exact (Cg.mod _).trans (hy2.mul Cg.rfl')
    . rw [decide_eq_false hb, cond_false]
      rw [if_neg hb, Nat.mul_one] at hpb
      refine ih n _ (by omega) (by omega) (by rw [zdK]; exact zbn _) ?_
      rw [hpb] at hy2
      exact hy2
theorem zyP {N : Nat} {a : Fr} {e : List UInt64} (ha : fv a < RR) (he : 64 * e.length + 100 < N) (he2 : e.length < 1000) : q73 N a e = some (frN (fv a ^ lv e % RR), ()) := by
  unfold q73
  rw [show q173 N 1 = some ((⟨1, 0, 0, 0⟩ : Fr), ()) from rfl]
  simp only [bsm]
  rw [show wr (64 * (e.length : Int)) = ((64 * e.length : Nat) : Int) by rw [zaX (by omega) (by omega)]; omega, zaX (by omega) (by omega)]
  have hlt : lv e / 2 ^ (64 * e.length) = 0 := by
    apply Nat.div_eq_of_lt
    have := zha e
    rw [Nat.pow_mul]
    exact this
  exact zyO (by omega) a ha e [0, 0, 0, 0] he2 (64 * e.length) N ⟨1, 0, 0, 0⟩ (by omega) (Nat.le_refl _) (by rw [zcW]; decide) (by rw [hlt, Nat.pow_zero, zcW]; exact Cg.rfl')
end
section
def nd (q : Nat) : Nat -> Nat -> Bool
  | 0, lo => !(Nat.beq (q % lo) 0)
  | k + 1, lo => nd q k lo && nd q k (lo + 2 ^ k)
end
section
theorem zah (x : Fr) : Fr.mk x.a0 x.a1 x.a2 x.a3 = x := rfl
theorem zaj : Fr.mk 0 0 0 0 = Fr.zero := rfl
def eqF (x y : Fr) : Bool := decide (x = y)
theorem zak (x y : Fr) : eqL El.u64 [x.a0, x.a1, x.a2, x.a3] [y.a0, y.a1, y.a2, y.a3] = eqF x y := ztZ x y
theorem zal (x : Fr) (n : UInt64) : eqL El.u64 [x.a0, x.a1, x.a2, x.a3] [n, (0 : UInt64), (0 : UInt64), (0 : UInt64)] = eqF x ⟨n, 0, 0, 0⟩ := ztZ x ⟨n, 0, 0, 0⟩
theorem zAZ (x : UInt64) : (zc6 x 63).toNat = 2 ^ 63 * (x.toNat % 2) := by
  unfold zc6
  rw [UInt64.toNat_ofNat']
  omega
theorem zqN (x y : UInt64) : (zaT x 1 ||| zc6 y 63).toNat = x.toNat / 2 + 9223372036854775808 * (y.toNat % 2) := by
  have hx := x.toNat_lt
  rw [UInt64.toNat_or, zAZ, zdk, Nat.or_comm, ← Nat.two_pow_add_eq_or_of_lt (by omega)]
  omega
theorem zv1 (x : UInt64) : (zaT x 1 ||| 0).toNat = x.toNat / 2 := by
  have h : (zaT x 1 ||| 0) = zaT x 1 := by simp
  rw [h, zdk]
theorem zA0 (a b c d : UInt64) : lv [zaT a 1 ||| zc6 b 63, zaT b 1 ||| zc6 c 63, zaT c 1 ||| zc6 d 63, zaT d 1 ||| 0] = lv [a, b, c, d] / 2 := by
  simp only [lv]
  rw [zqN, zqN, zqN, zv1]
  omega
set_option maxRecDepth 100000 in
theorem zqO (N : Nat) (A : Int -> Int -> List UInt64 -> List UInt64 -> Option (Fr × Int × Unit)) (n : Nat) (t s : Int) (z : List UInt64) (a b c d : UInt64) :
    zsH N A (n + 5) 0 3 t s z [a, b, c, d] = A t (wr (s + 1)) z [zaT a 1 ||| zc6 b 63, zaT b 1 ||| zc6 c 63, zaT c 1 ||| zc6 d 63, zaT d 1 ||| 0] := by kernel_rfl
theorem zA1 {α : Type} {l : List α} (h : l.length = 4) : ∃ a b c d, l = [a, b, c, d] := by
  match l, h with
  | [a, b, c, d], _ => exact ⟨a, b, c, d, rfl⟩
def zly (log : Nat) : Nat := 7 ^ ((RR - 1) / 2 ^ log) % RR
theorem zsV {N : Nat} (hN : 500 < N) (log : Nat) (hlog : log <= 32) (z : List UInt64) : ∀ (k n j : Nat) (e : List UInt64), j + k = log -> k < n -> e.length = 4 -> lv e = (RR - 1) / 2 ^ j -> znr N n (log : Int) (j : Int) z e = some (frN (zly log), 0, ()) := by
  intro k
  induction k with
  | zero =>
    intro n j e hj hn he hv
    obtain ⟨n, rfl⟩ : ∃ m, n = m + 1 := ⟨n - 1, by omega⟩
    obtain rfl : j = log := by omega
    have e4 : List.take (Int.toNat (((4 : Nat) : Int) - 0)) e = e := List.take_of_length_le (by rw [he]; decide)
    have hq := zt1 (N := N) (a := ⟨7, 0, 0, 0⟩) (e := e) (by rw [zcW]; decide) (by omega) (by omega)
    rw [zhJ]
    unfold znq
    rw [zab (by omega), cond_false, e4, show q75 N 7 = some ((⟨7, 0, 0, 0⟩ : Fr), ()) from rfl]
    simp only [bsm, zah]
    rw [hq]
    simp only [bsm, zah]
    rw [zcW, hv]
    rfl
  | succ k ih =>
    intro n j e hj hn he hv
    obtain ⟨n, rfl⟩ : ∃ m, n = m + 1 := ⟨n - 1, by omega⟩
    obtain ⟨M, rfl⟩ : ∃ M, N = M + 5 := ⟨N - 5, by omega⟩
    obtain ⟨a, b, c, d, rfl⟩ := zA1 he
    rw [zhJ]
    unfold znq
    rw [zaa (by omega), cond_true, zqO, zap (by omega)]
    refine ih n (j + 1) _ (by omega) (by omega) rfl ?_
    rw [zA0, hv, Nat.div_div_eq_div_mul, Nat.pow_succ]
theorem zyQ {N : Nat} (hN : 500 < N) {log : Nat} (h : log <= 32) : q77 N (log : Int) = some (frN (zly log), 0, ()) := by
  have hl : lv [18446744069414584320, 6034159408538082302, 3691218898639771653, 8353516859464449352] = (RR - 1) / 2 ^ 0 := by decide +kernel
  unfold q77
  rw [zab (by omega), cond_false, zab (by omega), cond_false]
  rw [show q169 N = some ((⟨18446744069414584321, 6034159408538082302, 3691218898639771653, 8353516859464449352⟩ : Fr), ()) from rfl]
  simp only [bsm]
  exact zsV hN log h [0, 0, 0, 0] log N 0 _ (by omega) (by omega) rfl hl
theorem ziS (log : Nat) : zly log < RR := zbn _
theorem zyR : fv ⟨1, 0, 0, 0⟩ = 1 := by decide +kernel
theorem zyS (N : Nat) (n : UInt64) : q75 N n = some ((⟨n, 0, 0, 0⟩ : Fr), ()) := rfl
theorem zlz (N : Nat) (n : UInt64) : q173 N n = some ((⟨n, 0, 0, 0⟩ : Fr), ()) := rfl
class Big (N : Nat) : Prop where
  h : 2000 <= N
instance : Big 2000 := ⟨Nat.le_refl _⟩
end
section
def q195 (N : Nat) (at0 : Int) (w1 : List Int) : Option (Row × Unit) :=
  must (leI (↑(3 : Nat) : Int) (↑w1.length : Int)) (must (leN ((0 : Nat) + (3 : Nat)) w1.length) (Option.bind (q75 N (1 : UInt64)) fun rr0 => cond (eqI at0 (↑(0 : Nat) : Int)) (must (eqI at0 (↑(0 : Nat) : Int)) (some ((Row.mk (rr0.1) (Fr.zero) (Fr.zero) (Fr.zero) (Fr.zero) (Fr.zero) (Fr.zero) (Fr.zero) (List.getD w1 (0 : Nat) (0 : Int)) (List.getD w1 ((0 : Nat) + (1 : Nat)) (0 : Int)) (List.getD w1 ((0 : Nat) + (1 : Nat) + (1 : Nat)) (0 : Int)), ())))) (cond (eqI at0 (↑((0 : Nat) + (1 : Nat)) : Int)) (must (eqI at0 (↑((0 : Nat) + (1 : Nat)) : Int)) (some ((Row.mk (Fr.zero) (rr0.1) (Fr.zero) (Fr.zero) (Fr.zero) (Fr.zero) (Fr.zero) (Fr.zero) (List.getD w1 (0 : Nat) (0 : Int)) (List.getD w1 ((0 : Nat) + (1 : Nat)) (0 : Int)) (List.getD w1 ((0 : Nat) + (1 : Nat) + (1 : Nat)) (0 : Int)), ())))) (cond (eqI at0 (↑((0 : Nat) + (1 : Nat) + (1 : Nat)) : Int)) (must (eqI at0 (↑((0 : Nat) + (1 : Nat) + (1 : Nat)) : Int)) (some ((Row.mk (Fr.zero) (Fr.zero) (rr0.1) (Fr.zero) (Fr.zero) (Fr.zero) (Fr.zero) (Fr.zero) (List.getD w1 (0 : Nat) (0 : Int)) (List.getD w1 ((0 : Nat) + (1 : Nat)) (0 : Int)) (List.getD w1 ((0 : Nat) + (1 : Nat) + (1 : Nat)) (0 : Int)), ())))) (cond (eqI at0 (↑((0 : Nat) + (1 : Nat) + (1 : Nat) + (1 : Nat)) : Int)) (must (eqI at0 (↑((0 : Nat) + (1 : Nat) + (1 : Nat) + (1 : Nat)) : Int)) (some ((Row.mk (Fr.zero) (Fr.zero) (Fr.zero) (rr0.1) (Fr.zero) (Fr.zero) (Fr.zero) (Fr.zero) (List.getD w1 (0 : Nat) (0 : Int)) (List.getD w1 ((0 : Nat) + (1 : Nat)) (0 : Int)) (List.getD w1 ((0 : Nat) + (1 : Nat) + (1 : Nat)) (0 : Int)), ())))) (cond (eqI at0 (↑((0 : Nat) + (1 : Nat) + (1 : Nat) + (1 : Nat) + (1 : Nat)) : Int)) (must (eqI at0 (↑((0 : Nat) + (1 : Nat) + (1 : Nat) + (1 : Nat) + (1 : Nat)) : Int)) (some ((Row.mk (Fr.zero) (Fr.zero) (Fr.zero) (Fr.zero) (rr0.1) (Fr.zero) (Fr.zero) (Fr.zero) (List.getD w1 (0 : Nat) (0 : Int)) (List.getD w1 ((0 : Nat) + (1 : Nat)) (0 : Int)) (List.getD w1 ((0 : Nat) + (1 : Nat) + (1 : Nat)) (0 : Int)), ())))) (cond (eqI at0 (↑((0 : Nat) + (1 : Nat) + (1 : Nat) + (1 : Nat) + (1 : Nat) + (1 : Nat)) : Int)) (must (eqI at0 (↑((0 : Nat) + (1 : Nat) + (1 : Nat) + (1 : Nat) + (1 : Nat) + (1 : Nat)) : Int)) (some ((Row.mk (Fr.zero) (Fr.zero) (Fr.zero) (Fr.zero) (Fr.zero) (rr0.1) (Fr.zero) (Fr.zero) (List.getD w1 (0 : Nat) (0 : Int)) (List.getD w1 ((0 : Nat) + (1 : Nat)) (0 : Int)) (List.getD w1 ((0 : Nat) + (1 : Nat) + (1 : Nat)) (0 : Int)), ())))) (cond (eqI at0 (↑((0 : Nat) + (1 : Nat) + (1 : Nat) + (1 : Nat) + (1 : Nat) + (1 : Nat) + (1 : Nat)) : Int)) (must (eqI at0 (↑((0 : Nat) + (1 : Nat) + (1 : Nat) + (1 : Nat) + (1 : Nat) + (1 : Nat) + (1 : Nat)) : Int)) (some ((Row.mk (Fr.zero) (Fr.zero) (Fr.zero) (Fr.zero) (Fr.zero) (Fr.zero) (rr0.1) (Fr.zero) (List.getD w1 (0 : Nat) (0 : Int)) (List.getD w1 ((0 : Nat) + (1 : Nat)) (0 : Int)) (List.getD w1 ((0 : Nat) + (1 : Nat) + (1 : Nat)) (0 : Int)), ())))) (must (eqI at0 (↑((0 : Nat) + (1 : Nat) + (1 : Nat) + (1 : Nat) + (1 : Nat) + (1 : Nat) + (1 : Nat) + (1 : Nat)) : Int)) (must (eqI at0 (↑((0 : Nat) + (1 : Nat) + (1 : Nat) + (1 : Nat) + (1 : Nat) + (1 : Nat) + (1 : Nat) + (1 : Nat)) : Int)) (some ((Row.mk (Fr.zero) (Fr.zero) (Fr.zero) (Fr.zero) (Fr.zero) (Fr.zero) (Fr.zero) (rr0.1) (List.getD w1 (0 : Nat) (0 : Int)) (List.getD w1 ((0 : Nat) + (1 : Nat)) (0 : Int)) (List.getD w1 ((0 : Nat) + (1 : Nat) + (1 : Nat)) (0 : Int)), ())))))))))))))
theorem zyT : p195 = q195 := by
  (repeat (apply funext; intro _))
  simp only [p195, q195, zvF, zah, zak, zal, zaj]
def q108 (N : Nat) (s0 : Stp) : Option (List Row × Int × Unit) :=
  cond ((eqI s0.kind (1 : Int))) (cond ((eqI s0.kind (1 : Int))) (some (([], (0 : Int), ()))) (cond ((eqI s0.kind (2 : Int))) (some (([Row.mk (s0.q0) (s0.q1) (s0.q2) (s0.q3) (s0.q4) (Fr.zero) (Fr.zero) (Fr.zero) (mxI s0.v0 (-1 : Int)) (mxI s0.v1 (-1 : Int)) (mxI s0.v2 (-1 : Int))], (0 : Int), ()))) (cond ((eqI s0.kind (3 : Int))) (Option.bind (q195 N (5 : Int) ([Stp.v0 s0, (-1 : Int), (-1 : Int)])) fun rr7 => some (([rr7.1], (0 : Int), ()))) (cond ((eqI s0.kind (4 : Int))) (Option.bind (q195 N (6 : Int) ([Stp.v0 s0, (-1 : Int), Stp.v2 s0])) fun rr6 => some (([rr6.1], (0 : Int), ()))) (cond ((eqI s0.kind (5 : Int))) (Option.bind (q195 N (7 : Int) ([Stp.v0 s0, Stp.v1 s0, (-1 : Int)])) fun rr5 => some (([rr5.1, Row.mk (Fr.zero) (Fr.zero) (Fr.zero) (Fr.zero) (Fr.zero) (Fr.zero) (Fr.zero) (Fr.zero) s0.v2 (-1 : Int) (-1 : Int)], (0 : Int), ()))) (cond ((eqI s0.kind (7 : Int))) (Option.bind (q195 N (1 : Int) ([Stp.v0 s0, (-1 : Int), (-1 : Int)])) fun rr4 => some (([rr4.1], (0 : Int), ()))) (some (([], (11 : Int), ()))))))))) (cond ((eqI s0.kind (6 : Int))) (some (([], (0 : Int), ()))) (cond ((eqI s0.kind (2 : Int))) (some (([Row.mk (s0.q0) (s0.q1) (s0.q2) (s0.q3) (s0.q4) (Fr.zero) (Fr.zero) (Fr.zero) (mxI s0.v0 (-1 : Int)) (mxI s0.v1 (-1 : Int)) (mxI s0.v2 (-1 : Int))], (0 : Int), ()))) (cond ((eqI s0.kind (3 : Int))) (Option.bind (q195 N (5 : Int) ([Stp.v0 s0, (-1 : Int), (-1 : Int)])) fun rr3 => some (([rr3.1], (0 : Int), ()))) (cond ((eqI s0.kind (4 : Int))) (Option.bind (q195 N (6 : Int) ([Stp.v0 s0, (-1 : Int), Stp.v2 s0])) fun rr2 => some (([rr2.1], (0 : Int), ()))) (cond ((eqI s0.kind (5 : Int))) (Option.bind (q195 N (7 : Int) ([Stp.v0 s0, Stp.v1 s0, (-1 : Int)])) fun rr1 => some (([rr1.1, Row.mk (Fr.zero) (Fr.zero) (Fr.zero) (Fr.zero) (Fr.zero) (Fr.zero) (Fr.zero) (Fr.zero) s0.v2 (-1 : Int) (-1 : Int)], (0 : Int), ()))) (cond ((eqI s0.kind (7 : Int))) (Option.bind (q195 N (1 : Int) ([Stp.v0 s0, (-1 : Int), (-1 : Int)])) fun rr0 => some (([rr0.1], (0 : Int), ()))) (some (([], (11 : Int), ())))))))))
theorem zyU : p108 = q108 := by
  (repeat (apply funext; intro _))
  simp only [p108, q108, hide_eq, zyT, zah, zak, zal, zaj]
end
section
def Sc (x : Fr) : Prop := fv x < RR
def fmul (x y : Fr) : Fr := frN (fv x * fv y % RR)
def fadd (x y : Fr) : Fr := frN ((fv x + fv y) % RR)
theorem zt2 (n : Nat) : Sc (frN (n % RR)) := by unfold Sc; rw [zdK]; exact zbn _
theorem zyV (x y : Fr) : Sc (fmul x y) := zt2 _
theorem zaC : Sc Fr.zero := by unfold Sc; decide +kernel
theorem zyW : Sc ⟨1, 0, 0, 0⟩ := by unfold Sc; decide +kernel
theorem zA2 {x y : Fr} (hx : Sc x) (hy : Sc y) (h : Cg (fv x) (fv y)) : x = y := by
  unfold Cg at h
  unfold Sc at hx hy
  rw [Nat.mod_eq_of_lt hx, Nat.mod_eq_of_lt hy] at h
  exact ztX h
theorem mulF {N : Nat} (hN : 10 < N) {a b : Fr} (ha : Sc a) : q76 N a b = some (fmul a b, ()) := zv0 hN ha
theorem mulR {N : Nat} (hN : 10 < N) {a b : Fr} (hb : Sc b) : q94 N a b = some (fmul a b, ()) := zqJ hN hb
theorem addR {N : Nat} (hN : 10 < N) {a b : Fr} (ha : Sc a) (hb : Sc b) : q81 N a b = some (fadd a b, ()) := zyH hN ha hb
end
section
def q204 (N : Nat) (log0 : Int) : Option (Bool × Unit) :=
  cond ((leI (1 : Int) log0)) (some (((leI log0 (6 : Int)), ()))) (some ((false, ())))
theorem zt3 : p204 = q204 := by
  (repeat (apply funext; intro _))
  simp only [p204, q204, hide_eq, zah, zak, zal, zaj]
def q136 (N : Nat) (log0 cell1 : Int) : Option (Fr × Int × Unit) :=
  Option.bind (q204 N log0) fun r0 => cond (!r0.1) (some ((Fr.zero, (1 : Int), ()))) (cond ((ltI cell1 (0 : Int))) (some ((Fr.zero, (1 : Int), ()))) (cond ((leI ((shlI (3 : Int) (UInt64.toNat ((u64I log0))))) cell1)) (some ((Fr.zero, (1 : Int), ()))) (Option.bind (q77 N log0) fun r1 => Option.bind (q75 N (7 : UInt64)) fun r2 => must (!eqI ((shlI (1 : Int) (UInt64.toNat ((u64I log0))))) (0 : Int)) (Option.bind (q72 N (r2.1) ([(u64I ((wr (Int.tdiv cell1 ((shlI (1 : Int) (UInt64.toNat ((u64I log0)))))))))])) fun r3 => must (!eqI ((shlI (1 : Int) (UInt64.toNat ((u64I log0))))) (0 : Int)) (Option.bind (q72 N (r1.1) ([(u64I ((Int.tmod cell1 ((shlI (1 : Int) (UInt64.toNat ((u64I log0))))))))])) fun r4 => Option.bind (q76 N (r3.1) (r4.1)) fun r5 => some ((r5.1, (0 : Int), ())))))))
theorem zyX : p136 = q136 := by
  (repeat (apply funext; intro _))
  simp only [p136, q136, hide_eq, zt3, zyx, zvF, zAR, zAQ, zah, zak, zal, zaj]
end
section
theorem sh1 {L : Nat} (h : L <= 6) : shlI 1 (UInt64.toNat (u64I (L : Int))) = ((2 ^ L : Nat) : Int) := by
  have : ∀ k : Fin 7, shlI 1 (UInt64.toNat (u64I (k.val : Int))) = ((2 ^ k.val : Nat) : Int) := by decide +kernel
  exact this ⟨L, by omega⟩
theorem sh3 {L : Nat} (h : L <= 6) : shlI 3 (UInt64.toNat (u64I (L : Int))) = ((3 * 2 ^ L : Nat) : Int) := by
  have : ∀ k : Fin 7, shlI 3 (UInt64.toNat (u64I (k.val : Int))) = ((3 * 2 ^ k.val : Nat) : Int) := by decide +kernel
  exact this ⟨L, by omega⟩
theorem sh1' {L : Nat} (h : L <= 6) : shlI 1 (UInt64.toNat (UInt64.ofNat (Int.toNat (L : Int)))) = ((2 ^ L : Nat) : Int) := by
  have : ∀ k : Fin 7, shlI 1 (UInt64.toNat (UInt64.ofNat (Int.toNat (k.val : Int)))) = ((2 ^ k.val : Nat) : Int) := by decide +kernel
  exact this ⟨L, by omega⟩
theorem zdy {L : Nat} (h : L <= 6) : 2 ^ L <= 64 := Nat.pow_le_pow_right (by decide) h
theorem zcX (L : Nat) : 0 < 2 ^ L := Nat.pow_pos (by decide)
theorem zyY (k : Nat) (h : k < 18446744073709551616) : lv [u64I (k : Int)] = k := by
  simp only [lv]
  rw [ziQ h]
  omega
theorem powF {N : Nat} [Big N] {a : Fr} (ha : Sc a) {k : Nat} (h : k < 18446744073709551616) : q72 N a [u64I (k : Int)] = some (frN (fv a ^ k % RR), ()) := by
  have hB : 2000 <= N := Big.h
  rw [zt1 (e := [u64I (k : Int)]) ha (show 64 * 1 + 100 < N by omega) (show 1 < 1000 by omega), zyY k h]
theorem sc7 : Sc ⟨7, 0, 0, 0⟩ := by unfold Sc; decide +kernel
theorem fv7 : fv ⟨7, 0, 0, 0⟩ = 7 := by decide +kernel
theorem zv2 (L : Nat) : Sc (frN (zly L)) := by unfold Sc; rw [zlw (ziS L)]; exact ziS L
def nm (L x : Nat) : Fr := fmul (frN (7 ^ (x / 2 ^ L) % RR)) (frN (zly L ^ (x % 2 ^ L) % RR))
theorem zA3 (L x : Nat) : Sc (nm L x) := zyV _ _
theorem zqP (N : Nat) {L : Nat} (h1 : 1 <= L) (h6 : L <= 6) : q204 N (L : Int) = some (true, ()) := by
  unfold q204
  rw [zay (by omega), cond_true, zay (by omega)]
theorem zv3 {N : Nat} [Big N] {L x : Nat} (h1 : 1 <= L) (h6 : L <= 6) (hx : x < 3 * 2 ^ L) : q136 N (L : Int) (x : Int) = some (nm L x, 0, ()) := by
  have hB : 2000 <= N := Big.h
  have hp := zcX L
  have hle := zdy h6
  have hd : x / 2 ^ L <= x := Nat.div_le_self _ _
  have hm : x % 2 ^ L < 2 ^ L := Nat.mod_lt _ hp
  have e0 : eqI ((2 ^ L : Nat) : Int) 0 = false := zaO (by omega)
  have e9 : wr ((x / 2 ^ L : Nat) : Int) = ((x / 2 ^ L : Nat) : Int) := by
    generalize x / 2 ^ L = q at hd
    exact zaX (by omega) (by omega)
  unfold q136
  rw [zqP N h1 h6]
  simp only [bsm]
  rw [Bool.not_true, cond_false, zab (by omega), cond_false, sh3 h6, zan (by omega), cond_false, zyQ (by omega) (by omega), zyS]
  simp only [bsm]
  rw [sh1 h6, e0, Bool.not_false, mst2, zbp, zey, e9, powF sc7 (by omega)]
  simp only [bsm]
  rw [mst2, powF (zv2 L) (by omega)]
  simp only [bsm]
  rw [mulF (by omega) (zt2 _), fv7, zlw (ziS L)]
  rfl
def pre (l : List Fr) : Nat -> Nat
  | 0 => 1
  | i + 1 => pre l i * fv (l.getD i Fr.zero)
end
end Go.Proofs.Ytgimohchocjgcaa.V
