import Derived.Test.YtgimohchocjgcaaVLN
import Derived.KernelRfl
set_option linter.unusedVariables false
set_option linter.unusedSimpArgs false
namespace Go.Proofs.Ytgimohchocjgcaa.V
section
theorem zc8 (x : UInt64) (n : Nat) : (zaL x n).toNat = x.toNat / 2 ^ n := by
  unfold zaL
  rw [UInt64.toNat_ofNat']
  exact Nat.mod_eq_of_lt (Nat.lt_of_le_of_lt (Nat.div_le_self _ _) x.toNat_lt)
theorem zxN (x : UInt64) : (x &&& 4294967295).toNat = x.toNat % 4294967296 := by
  rw [UInt64.toNat_and]
  exact Nat.and_two_pow_sub_one_eq_mod x.toNat 32
theorem zei {a b c d m n : Nat} (ha : a < m) (hb : b < n) : a * b <= (m - 1) * (n - 1) := Nat.mul_le_mul (by omega) (by omega)
theorem zir (N : Nat) (x y : UInt64) : ∃ h l : UInt64, q163 N x y = some (h, l, ()) /\ h.toNat * 18446744073709551616 + l.toNat = x.toNat * y.toNat := by
  refine ⟨_, _, rfl, ?_⟩
  have hx := x.toNat_lt
  have hy := y.toNat_lt
  simp only [UInt64.toNat_add, UInt64.toNat_mul, zc8, zxN, show (32 : UInt64).toNat = 32 from rfl]
  generalize hX : x.toNat = X at *
  generalize hY : y.toNat = Y at *
  have e1 : (2 : Nat) ^ 64 = 18446744073709551616 := by decide
  have e2 : (2 : Nat) ^ 32 = 4294967296 := by decide
  simp only [e1, e2] at *
  have hX1 : X = 4294967296 * (X / 4294967296) + X % 4294967296 := (Nat.div_add_mod X 4294967296).symm
  have hY1 : Y = 4294967296 * (Y / 4294967296) + Y % 4294967296 := (Nat.div_add_mod Y 4294967296).symm
  have b1 : X / 4294967296 < 4294967296 := by omega
  have b2 : Y / 4294967296 < 4294967296 := by omega
  have b3 : X % 4294967296 < 4294967296 := Nat.mod_lt _ (by decide)
  have b4 : Y % 4294967296 < 4294967296 := Nat.mod_lt _ (by decide)
  generalize X / 4294967296 = x1 at *
  generalize X % 4294967296 = x0 at *
  generalize Y / 4294967296 = y1 at *
  generalize Y % 4294967296 = y0 at *
  have hp : X * Y = 18446744073709551616 * (x1 * y1) + 4294967296 * (x1 * y0) + 4294967296 * (x0 * y1) + x0 * y0 := by
    rw [hX1, hY1]
    simp only [Nat.add_mul, Nat.mul_add]
    have q1 : 4294967296 * x1 * (4294967296 * y1) = 18446744073709551616 * (x1 * y1) := by
      rw [show (18446744073709551616 : Nat) = 4294967296 * 4294967296 by decide]
      simp only [Nat.mul_assoc, Nat.mul_left_comm x1]
    have q2 : 4294967296 * x1 * y0 = 4294967296 * (x1 * y0) := Nat.mul_assoc _ _ _
    have q3 : x0 * (4294967296 * y1) = 4294967296 * (x0 * y1) := Nat.mul_left_comm _ _ _
    rw [q1, q2, q3]
    omega
  have p1 := zei (c := 0) (d := 0) b1 b2
  have p2 := zei (c := 0) (d := 0) b1 b4
  have p3 := zei (c := 0) (d := 0) b3 b2
  have p4 := zei (c := 0) (d := 0) b3 b4
  rw [hp]
  generalize x1 * y1 = a at *
  generalize x1 * y0 = b at *
  generalize x0 * y1 = c at *
  generalize x0 * y0 = d at *
  omega
end
section
theorem zp5 (a : List UInt64) (k : Nat) : (lv a).testBit k = ((a.getD (k / 64) 0).toNat).testBit (k % 64) := by
  induction a generalizing k with
  | nil => simp [lv]
  | cons x a ih =>
    have hx := x.toNat_lt
    have e : lv (x :: a) = 2 ^ 64 * lv a + x.toNat := by simp only [lv]; rw [Nat.add_comm]
    rw [e, Nat.testBit_two_pow_mul_add _ hx]
    split
    . rename_i h
      rw [Nat.div_eq_of_lt h, Nat.mod_eq_of_lt h]; rfl
    . rename_i h
      rw [ih]
      have e1 : k / 64 = (k - 64) / 64 + 1 := by omega
      have e2 : k % 64 = (k - 64) % 64 := by omega
      rw [e1, e2, List.getD_cons_succ]
theorem zgn (n k : Nat) : n / 2 ^ k % 2 = (n.testBit k).toNat := by
  rw [Nat.testBit_eq_decide_div_mod_eq]
  have := Nat.mod_two_eq_zero_or_one (n / 2 ^ k)
  rcases this with h | h <;> simp [h]
theorem zp6 (x : UInt64) : (x &&& 1).toNat = x.toNat % 2 := by
  rw [UInt64.toNat_and]
  exact Nat.and_two_pow_sub_one_eq_mod x.toNat 1
theorem zmb (n k : Nat) : Int.tdiv (n : Int) (k : Int) = ((n / k : Nat) : Int) := rfl
theorem zmc (n k : Nat) : Int.tmod (n : Int) (k : Int) = ((n % k : Nat) : Int) := rfl
theorem zis {n : Nat} (h : n < 18446744073709551616) : (u64I (n : Int)).toNat = n := by
  unfold u64I
  rw [UInt64.toNat_ofNat']
  omega
end
section
theorem zu0 {N : Nat} {a : List UInt64} {i : Nat} (hi : i < 1000000) : ∃ x : UInt64, q162 N a (i : Int) = some (x, ()) /\ x.toNat = lv a / 2 ^ i % 2 := by
  unfold q162
  have e1 : wr (Int.tdiv (i : Int) 64) = ((i / 64 : Nat) : Int) := by
    rw [show (64 : Int) = ((64 : Nat) : Int) from rfl, zmb, zdo (by omega) (by omega)]
  have e2 : Int.tmod (i : Int) 64 = ((i % 64 : Nat) : Int) := rfl
  rw [e1, e2, zoA]
  by_cases h : a.length <= i / 64
  . rw [zaE h, cond_true]
    refine ⟨0, rfl, ?_⟩
    rw [zgn, zp5, zeh h]
    simp
  . rw [zoB h, cond_false, zav, zbk, zau (by omega), zf9, zoC (zav _), zoC (zae (by omega))]
    simp only [Int.toNat_natCast]
    refine ⟨_, rfl, ?_⟩
    rw [zp6, zc8, UInt64.toNat_ofNat', Nat.mod_eq_of_lt (show i % 64 < 2 ^ 64 by omega), zgn, zgn, zp5]
end
section
theorem mst {R : Type} {x : Option R} : must true x = x := rfl
def RR : Nat := 52435875175126190479447740508185965837690552500527637822603658699938581184513
def Binv : Nat := 12549076656233958353659347336803947287922716146853412054870763148006372261952
theorem zit : 18446744073709551616 ^ 4 * Binv % RR = 1 := by decide +kernel
def fv (x : Fr) : Nat := lv x.l
theorem zz6 (x : Fr) : fv x < 18446744073709551616 ^ 4 := zgM x.l
theorem ztc {x y : Fr} (h : fv x = fv y) : x = y := by
  obtain ⟨a, b, c, d⟩ := x
  obtain ⟨a', b', c', d'⟩ := y
  simp only [fv, Fr.l, lv] at h
  have h1 := a.toNat_lt
  have h2 := b.toNat_lt
  have h3 := c.toNat_lt
  have h4 := d.toNat_lt
  have h5 := a'.toNat_lt
  have h6 := b'.toNat_lt
  have h7 := c'.toNat_lt
  have h8 := d'.toNat_lt
  have e1 : a.toNat = a'.toNat := by omega
  have e2 : b.toNat = b'.toNat := by omega
  have e3 : c.toNat = c'.toNat := by omega
  have e4 : d.toNat = d'.toNat := by omega
  rw [UInt64.toNat_inj.1 e1, UInt64.toNat_inj.1 e2, UInt64.toNat_inj.1 e3, UInt64.toNat_inj.1 e4]
theorem of4 {l : List UInt64} (h : l.length = 4) : ∃ x : Fr, Fr.of? l = some x /\ x.l = l := by
  match l, h with
  | [a, b, c, d], _ => exact ⟨⟨a, b, c, d⟩, rfl, rfl⟩
theorem mac (N : Nat) (x y t c : UInt64) : ∃ hi lo, q163 N x y = some (hi, lo, ()) /\ ∃ s1 k1, kAdd lo t 0 = some (s1, k1) /\ ∃ s2 k2, kAdd s1 c 0 = some (s2, k2) /\ s2.toNat + 18446744073709551616 * (hi + k1 + k2).toNat = x.toNat * y.toNat + t.toNat + c.toNat := by
  obtain ⟨hi, lo, h1, h2⟩ := zir N x y
  obtain ⟨s1, k1, h3, h4, h5⟩ := zc7 (x := lo) (y := t) (c := 0) (by decide)
  obtain ⟨s2, k2, h6, h7, h8⟩ := zc7 (x := s1) (y := c) (c := 0) (by decide)
  refine ⟨hi, lo, h1, s1, k1, h3, s2, k2, h6, ?_⟩
  have hz : (0 : UInt64).toNat = 0 := rfl
  have hxy : x.toNat * y.toNat <= 18446744073709551615 * 18446744073709551615 := Nat.mul_le_mul (by have := x.toNat_lt; omega) (by have := y.toNat_lt; omega)
  have ht := t.toNat_lt
  have hc := c.toNat_lt
  have hs := s2.toNat_lt
  rw [hz] at h5 h8
  have e : (hi + k1 + k2).toNat = hi.toNat + k1.toNat + k2.toNat := by
    rw [UInt64.toNat_add, UInt64.toNat_add]
    omega
  rw [e]
  omega
theorem mac' (N : Nat) (x y t c : UInt64) : ∃ hi lo, q163 N x y = some (hi, lo, ()) /\ ∃ s1 k1, kAdd t lo 0 = some (s1, k1) /\ ∃ s2 k2, kAdd s1 c 0 = some (s2, k2) /\ s2.toNat + 18446744073709551616 * (hi + k1 + k2).toNat = x.toNat * y.toNat + t.toNat + c.toNat := by
  obtain ⟨hi, lo, h1, h2⟩ := zir N x y
  obtain ⟨s1, k1, h3, h4, h5⟩ := zc7 (x := t) (y := lo) (c := 0) (by decide)
  obtain ⟨s2, k2, h6, h7, h8⟩ := zc7 (x := s1) (y := c) (c := 0) (by decide)
  refine ⟨hi, lo, h1, s1, k1, h3, s2, k2, h6, ?_⟩
  have hz : (0 : UInt64).toNat = 0 := rfl
  have hxy : x.toNat * y.toNat <= 18446744073709551615 * 18446744073709551615 := Nat.mul_le_mul (by have := x.toNat_lt; omega) (by have := y.toNat_lt; omega)
  have ht := t.toNat_lt
  have hc := c.toNat_lt
  have hs := s2.toNat_lt
  rw [hz] at h5 h8
  have e : (hi + k1 + k2).toNat = hi.toNat + k1.toNat + k2.toNat := by
    rw [UInt64.toNat_add, UInt64.toNat_add]
    omega
  rw [e]
  omega
theorem zna (x y : UInt64) : ∃ s d, kAdd x y 0 = some (s, d) /\ d.toNat <= 1 /\ s.toNat + 18446744073709551616 * d.toNat = x.toNat + y.toNat := by
  obtain ⟨s, d, h1, h2, h3⟩ := zc7 (x := x) (y := y) (c := 0) (by decide)
  exact ⟨s, d, h1, h2, by simpa using h3⟩
theorem zp7 (N : Nat) (A : Int -> List UInt64 -> List UInt64 -> List UInt64 -> List UInt64 -> List UInt64 -> Option (Fr × Unit)) (a b z m t0 : List UInt64) (i : Nat) (hi : i < 4) (ha : a.length = 4) : ∀ (k n j : Nat) (c : UInt64) (t : List UInt64), j + k = 4 -> k < n -> t.length = 5 ->
    lv (t.take j) + 18446744073709551616 ^ j * c.toNat = lv (t0.take j) + lv (a.take j) * (b.getD i 0).toNat -> (∀ p, j <= p -> t.getD p 0 = t0.getD p 0) ->
    ∃ (c' : UInt64) (t' : List UInt64) (n' : Nat), t'.length = 5 /\ lv (t'.take 4) + 18446744073709551616 ^ 4 * c'.toNat = lv (t0.take 4) + lv a * (b.getD i 0).toNat /\ t'.getD 4 0 = t0.getD 4 0 /\
      zge N A n (i : Int) c (i : Int) (j : Int) a b z m t = zge N A (n' + 1) (i : Int) c' (i : Int) 4 a b z m t' := by
  intro k
  induction k with
  | zero =>
    intro n j c t hj hn ht hv hp
    obtain ⟨n, rfl⟩ : ∃ m, n = m + 1 := ⟨n - 1, by omega⟩
    obtain rfl : j = 4 := by omega
    rw [List.take_of_length_le (l := a) (by omega)] at hv
    exact ⟨c, t, n, ht, hv, hp 4 (Nat.le_refl _), rfl⟩
  | succ k ih =>
    intro n j c t hj hn ht hv hp
    obtain ⟨n, rfl⟩ : ∃ m, n = m + 1 := ⟨n - 1, by omega⟩
    obtain ⟨hi', lo, h1, s1, k1, h2, s2, k2, h3, h4⟩ := mac N (a.getD j 0) (b.getD i 0) (t.getD j 0) c
    rw [zgf]
    unfold zhj
    rw [zae (by omega), cond_true, zay (by omega)]
    simp only [zbk, zav, Int.toNat_natCast]
    rw [zau (by omega), zau (by omega), zau (by omega)]
    simp only [Bool.and_self, mst, h1, h2, h3, Option.bind_some]
    refine ih n (j + 1) _ _ (by omega) (by omega) (by rw [zat]; exact ht) ?_ ?_
    . rw [zaJ _ _ (by omega), zaf t0, zaf a, ← hp j (Nat.le_refl _), Nat.pow_succ]
      generalize lv (List.take j t) = A1 at *
      generalize lv (List.take j t0) = A2 at *
      generalize lv (List.take j a) = A3 at *
      generalize (18446744073709551616 ^ j : Nat) = P at *
      generalize (b.getD i 0).toNat = y at *
      generalize (a.getD j 0).toNat = x at *
      generalize (t.getD j 0).toNat = w at *
      generalize (hi' + k1 + k2).toNat = c1 at *
      generalize s2.toNat = s at *
      generalize c.toNat = c0 at *
      have e : P * s + P * 18446744073709551616 * c1 = P * (x * y + w + c0) := by rw [← h4]; grind
      grind
    . intro p h
      rw [zaX, if_neg (by omega)]
      exact hp p (by omega)
theorem znb (N : Nat) (A : Int -> List UInt64 -> List UInt64 -> List UInt64 -> List UInt64 -> List UInt64 -> Option (Fr × Unit)) (a b z m t0 : List UInt64) (i : Int) (top more x : UInt64) (hm : m.length = 4) : ∀ (k n j : Nat) (c : UInt64) (t : List UInt64), 1 <= j -> j + k = 4 -> k < n -> t.length = 5 ->
    18446744073709551616 * (lv (t.take (j - 1)) + 18446744073709551616 ^ (j - 1) * c.toNat) = lv (t0.take j) + x.toNat * lv (m.take j) -> (∀ p, j - 1 <= p -> t.getD p 0 = t0.getD p 0) ->
    ∃ (c' : UInt64) (t' : List UInt64) (n' : Nat), t'.length = 5 /\ 18446744073709551616 * (lv (t'.take 3) + 18446744073709551616 ^ 3 * c'.toNat) = lv (t0.take 4) + x.toNat * lv m /\
      zdJ N A n c top more x (j : Int) i a b z m t = zdJ N A (n' + 1) c' top more x 4 i a b z m t' := by
  intro k
  induction k with
  | zero =>
    intro n j c t h1 hj hn ht hv hp
    obtain ⟨n, rfl⟩ : ∃ m, n = m + 1 := ⟨n - 1, by omega⟩
    obtain rfl : j = 4 := by omega
    rw [List.take_of_length_le (l := m) (by omega)] at hv
    exact ⟨c, t, n, ht, hv, rfl⟩
  | succ k ih =>
    intro n j c t hj1 hj hn ht hv hp
    obtain ⟨n, rfl⟩ : ∃ m, n = m + 1 := ⟨n - 1, by omega⟩
    obtain ⟨j, rfl⟩ : ∃ p, j = p + 1 := ⟨j - 1, by omega⟩
    obtain ⟨hi', lo, h1, s1, k1, h2, s2, k2, h3, h4⟩ := mac N x (m.getD (j + 1) 0) (t.getD (j + 1) 0) c
    rw [ze1]
    unfold zeD
    rw [zae (by omega), cond_true, zay (by omega), ziq (by omega)]
    simp only [zbk, zav, Int.toNat_natCast]
    rw [zau (by omega), zau (by omega), zau (by omega)]
    simp only [Bool.and_self, mst, h1, h2, h3, Option.bind_some]
    refine ih n (j + 1 + 1) _ _ (by omega) (by omega) (by omega) (by rw [zat]; exact ht) ?_ ?_
    . simp only [Nat.add_sub_cancel] at hv ⊢
      rw [zaJ _ _ (by omega), zaf t0, zaf m, ← hp (j + 1) (by omega), Nat.pow_succ]
      generalize lv (List.take j t) = A1 at *
      generalize lv (List.take (j + 1) t0) = A2 at *
      generalize lv (List.take (j + 1) m) = A3 at *
      generalize (18446744073709551616 ^ j : Nat) = P at *
      generalize (m.getD (j + 1) 0).toNat = y at *
      generalize (t.getD (j + 1) 0).toNat = w at *
      generalize (hi' + k1 + k2).toNat = c1 at *
      generalize s2.toNat = s at *
      generalize c.toNat = c0 at *
      generalize x.toNat = x0 at *
      have e : P * s + P * 18446744073709551616 * c1 = P * (x0 * y + w + c0) := by rw [← h4]; grind
      grind
    . intro p h
      rw [zaX, if_neg (by omega)]
      exact hp p (by omega)
end
section
def mL : List UInt64 := [18446744069414584321, 6034159408538082302, 3691218898639771653, 8353516859464449352]
theorem zgN : lv mL = RR := by decide +kernel
theorem zp8 (N : Nat) (over : UInt64) (a z : List UInt64) (ha : a.length = 4) : ∀ (k n j : Nat) (c : UInt64) (t : List UInt64), j + k = 4 -> k < n -> t.length = 4 -> c.toNat <= 1 ->
    lv (t.take j) + lv (mL.take j) = lv (a.take j) + 18446744073709551616 ^ j * c.toNat ->
    ∃ (c' : UInt64) (t' : List UInt64) (n' : Nat), t'.length = 4 /\ c'.toNat <= 1 /\ lv t' + RR = lv a + 18446744073709551616 ^ 4 * c'.toNat /\ ze0 N n over c (j : Int) a z mL t = ze0 N (n' + 1) over c' 4 a z mL t' := by
  intro k
  induction k with
  | zero =>
    intro n j c t hj hn ht hc hv
    obtain ⟨n, rfl⟩ : ∃ m, n = m + 1 := ⟨n - 1, by omega⟩
    obtain rfl : j = 4 := by omega
    rw [List.take_of_length_le (l := t) (by omega), List.take_of_length_le (l := a) (by omega), show mL.take 4 = mL from rfl, zgN] at hv
    exact ⟨c, t, n, ht, hc, hv, rfl⟩
  | succ k ih =>
    intro n j c t hj hn ht hc hv
    obtain ⟨n, rfl⟩ : ∃ m, n = m + 1 := ⟨n - 1, by omega⟩
    obtain ⟨s, d, h1, h2, h3⟩ := zkZ (x := a.getD j 0) (y := mL.getD j 0) hc
    rw [zgd]
    unfold zhi
    rw [zae (by omega), cond_true, zay (by omega)]
    simp only [zbk, zav, Int.toNat_natCast]
    rw [zau (by omega)]
    simp only [Bool.and_self, mst, h1, Option.bind_some]
    refine ih n (j + 1) _ _ (by omega) (by omega) (by rw [zat]; exact ht) h2 ?_
    rw [zaJ _ _ (by omega), zaf mL, zaf a, Nat.pow_succ]
    generalize lv (List.take j t) = A1 at *
    generalize lv (List.take j mL) = A2 at *
    generalize lv (List.take j a) = A3 at *
    generalize (18446744073709551616 ^ j : Nat) = P at *
    generalize (mL.getD j 0).toNat = y at *
    generalize (a.getD j 0).toNat = x at *
    generalize d.toNat = d0 at *
    generalize s.toNat = s at *
    generalize c.toNat = c0 at *
    have e : P * s + P * y + P * c0 = P * x + P * 18446744073709551616 * d0 := by
      have : P * (s + y + c0) = P * (x + 18446744073709551616 * d0) := by rw [h3]
      grind
    grind
theorem zu1 {N : Nat} (hN : 10 < N) (a : Fr) (over : UInt64) (ho : over.toNat <= 1) (hb : fv a + 18446744073709551616 ^ 4 * over.toNat < RR + 18446744073709551616 ^ 4) :
    ∃ r, q174 N a over = some (r, ()) /\ fv r = if fv a + 18446744073709551616 ^ 4 * over.toNat < RR then fv a + 18446744073709551616 ^ 4 * over.toNat else fv a + 18446744073709551616 ^ 4 * over.toNat - RR := by
  obtain ⟨c', t', n', h1, h2, h3, h4⟩ := zp8 N over a.l [0, 0, 0, 0] rfl 4 N 0 0 [0, 0, 0, 0] rfl (by omega) rfl (by decide) (by simp [lv])
  have hq : q174 N a over = ze0 N N over 0 ((0 : Nat) : Int) a.l [0, 0, 0, 0] mL [0, 0, 0, 0] := rfl
  rw [hq, h4, zgd]
  unfold zhi
  rw [zac (by omega), cond_false]
  obtain ⟨r, hr1, hr2⟩ := of4 h1
  have hal : a.l.length = 4 := rfl
  have hRR : RR < 18446744073709551616 ^ 4 := by decide
  have hfv : fv r = lv t' := by rw [fv, hr2]
  have htl := zgM t'
  rw [h1] at htl
  by_cases hc : over.toNat < c'.toNat
  . rw [zau hc, cond_true, hal, show Nat.beq 4 4 = true from rfl, mst, show Fr.of? a.l = some a from rfl]
    refine ⟨a, rfl, ?_⟩
    have h0 : over.toNat = 0 := by omega
    have h11 : c'.toNat = 1 := by omega
    rw [h11] at h3
    rw [h0, if_pos (by unfold fv; omega)]
    omega
  . rw [zcn hc, cond_false, h1, show Nat.beq 4 4 = true from rfl, mst, hr1]
    refine ⟨r, rfl, ?_⟩
    unfold fv at hb ⊢
    unfold fv at hfv
    rw [hfv]
    rcases (by omega : c'.toNat = 0 \/ c'.toNat = 1) with e | e <;> rcases (by omega : over.toNat = 0 \/ over.toNat = 1) with e2 | e2 <;> rw [e] at h3 <;> rw [e2] at hb ⊢ <;> first | omega | (rw [if_neg (by omega)]; omega)
theorem zp9 {t : List UInt64} (h : t.length = 5) : lv t = lv (t.take 4) + 18446744073709551616 ^ 4 * (t.getD 4 0).toNat := by
  have e := zaf t 4
  rw [List.take_of_length_le (by omega)] at e
  exact e
theorem zqa (x : UInt64) : (x * 18446744069414584319).toNat * 18446744069414584321 % 18446744073709551616 = (18446744073709551616 - x.toNat) % 18446744073709551616 := by
  have hx := x.toNat_lt
  rw [UInt64.toNat_mul, show UInt64.toNat 18446744069414584319 = 18446744069414584319 from rfl, Nat.mod_mul_mod, Nat.mul_assoc]
  omega
theorem zk0 {N : Nat} (hN : 10 < N) (a b z t : List UInt64) (i : Nat) (hi : i < 4) (ha : a.length = 4) (hb : b.length = 4) (ht : t.length = 5) (hlt : lv t < lv a + RR) (n : Nat) :
    ∃ t' x, t'.length = 5 /\ 18446744073709551616 * lv t' = lv t + lv a * (b.getD i 0).toNat + x * RR /\ x < 18446744073709551616 /\ zcT N (n + 1) (i : Int) a b z mL t = zcT N n ((i + 1 : Nat) : Int) a b z mL t' := by
  have hal := zgM a
  rw [ha] at hal
  have hRR : RR < 18446744073709551616 ^ 4 := by decide
  have htt := zp9 ht
  have ht4 : (t.getD 4 0).toNat <= 1 := by omega
  obtain ⟨c1, t1, n1, g1, g2, g3, g4⟩ := zp7 N (zcT N n) a b z mL t i hi ha 4 N 0 0 t rfl (by omega) ht (by simp [lv]) (fun _ _ => rfl)
  obtain ⟨top, more, f1, f2, f3⟩ := zna (t1.getD 4 0) c1
  obtain ⟨hi0, lo0, e1, e2⟩ := zir N (t1.getD 0 0 * 18446744069414584319) 18446744069414584321
  obtain ⟨s0, k0, d1, d2, d3⟩ := zna lo0 (t1.getD 0 0)
  have hs0 : s0.toNat = 0 := by
    have hl := zqa (t1.getD 0 0)
    have := (t1.getD 0 0).toNat_lt
    have := lo0.toNat_lt
    have := s0.toNat_lt
    rw [show UInt64.toNat 18446744069414584321 = 18446744069414584321 from rfl] at e2
    rw [← e2] at hl
    omega
  have hc : (hi0 + k0).toNat = hi0.toNat + k0.toNat := by
    have := hi0.toNat_lt
    have hx : (t1.getD 0 0 * 18446744069414584319).toNat * UInt64.toNat 18446744069414584321 <= 18446744073709551615 * 18446744069414584321 := Nat.mul_le_mul (by have := (t1.getD 0 0 * 18446744069414584319).toNat_lt; omega) (Nat.le_refl _)
    rw [UInt64.toNat_add]
    omega
  have hv2 : 18446744073709551616 * (lv (t1.take (1 - 1)) + 18446744073709551616 ^ (1 - 1) * (hi0 + k0).toNat) = lv (t1.take 1) + (t1.getD 0 0 * 18446744069414584319).toNat * lv (mL.take 1) := by
    have e5 : lv (t1.take 1) = (t1.getD 0 0).toNat := by rw [zaf]; simp [lv]
    have e6 : lv (mL.take 1) = 18446744069414584321 := by decide +kernel
    rw [e5, e6, hc]
    rw [show UInt64.toNat 18446744069414584321 = 18446744069414584321 from rfl] at e2
    simp only [Nat.sub_self, List.take_zero, lv, Nat.pow_zero]
    omega
  obtain ⟨c2, t2, n2, p1, p2, p3⟩ := znb N (zcT N n) a b z mL t1 i top more (t1.getD 0 0 * 18446744069414584319) rfl 3 N 1 (hi0 + k0) t1 (Nat.le_refl _) rfl (by omega) g1 hv2 (fun _ _ => rfl)
  obtain ⟨t3, k3, r1, r2, r3⟩ := zna top c2
  refine ⟨setL (setL t2 3 t3) 4 (more + k3), (t1.getD 0 0 * 18446744069414584319).toNat, by rw [zat, zat]; exact p1, ?_, (t1.getD 0 0 * 18446744069414584319).toNat_lt, ?_⟩
  . have hm : (more + k3).toNat = more.toNat + k3.toNat := by rw [UInt64.toNat_add]; omega
    have hL : lv (setL (setL t2 3 t3) 4 (more + k3)) = lv (t2.take 3) + 18446744073709551616 ^ 3 * t3.toNat + 18446744073709551616 ^ 4 * (more.toNat + k3.toNat) := by
      rw [zp9 (by rw [zat, zat]; exact p1), zc6 _ _ (Nat.le_refl _), zaX, if_pos ⟨rfl, by rw [zat]; omega⟩, zaJ _ _ (by omega), hm]
    rw [hL, htt]
    rw [zgN] at p2
    rw [g3] at f3
    generalize lv (List.take 3 t2) = A1 at *
    generalize lv (List.take 4 t1) = A2 at *
    generalize lv (List.take 4 t) = A3 at *
    generalize (t1.getD 0 0 * 18446744069414584319).toNat * RR = X at *
    generalize lv a * (b.getD i 0).toNat = Y at *
    omega
  . rw [zgg]
    unfold zhk
    rw [zae (by omega), cond_true]
    refine g4.trans ?_
    rw [zgf]
    unfold zhj
    rw [zac (by omega), cond_false, f1]
    simp only [Option.bind_some]
    rw [show List.getD mL 0 0 = 18446744069414584321 from rfl, e1]
    simp only [Option.bind_some]
    rw [d1]
    simp only [Option.bind_some]
    refine p3.trans ?_
    rw [ze1]
    unfold zeD
    rw [zac (by omega), cond_false, r1]
    simp only [Option.bind_some]
    rw [zay (by omega)]
theorem zmd {x y T q r : Nat} (h : 18446744073709551616 ^ 4 * T = x * y + q * RR) (hr : r = T \/ r + RR = T) (hlt : r < RR) : r = x * y * Binv % RR := by
  have e1 : 18446744073709551616 ^ 4 * r % RR = x * y % RR := by
    rcases hr with rfl | hr
    . rw [h, Nat.add_mul_mod_self_right]
    . have : 18446744073709551616 ^ 4 * r + 18446744073709551616 ^ 4 * RR = x * y + q * RR := by rw [← h, ← hr, Nat.mul_add]
      have h2 := congrArg (· % RR) this
      simp only [Nat.add_mul_mod_self_right] at h2
      exact h2
  have e2 : r * (18446744073709551616 ^ 4 * Binv) % RR = r := by
    rw [Nat.mul_mod, zit, Nat.mul_one, Nat.mod_mod, Nat.mod_eq_of_lt hlt]
  rw [← e2, ← Nat.mul_assoc, Nat.mul_comm r, Nat.mul_mod, e1, ← Nat.mul_mod]
theorem zgo {N : Nat} (hN : 10 < N) {a b : Fr} (ha : fv a < RR) : ∃ r, q172 N a b = some (r, ()) /\ fv r = fv a * fv b * Binv % RR := by
  have hRR : RR < 18446744073709551616 ^ 4 := by decide
  have hR0 : 0 < RR := by decide
  have hlen : b.l.length = 4 := rfl
  have loop : ∀ (k n i : Nat) (t : List UInt64) (q : Nat), i + k = 4 -> k < n -> t.length = 5 -> lv t < lv a.l + RR -> 18446744073709551616 ^ i * lv t = lv a.l * lv (b.l.take i) + q * RR ->
      ∃ (t' : List UInt64) (q' n' : Nat), t'.length = 5 /\ lv t' < lv a.l + RR /\ 18446744073709551616 ^ 4 * lv t' = lv a.l * lv b.l + q' * RR /\ zcT N n (i : Int) a.l b.l [0, 0, 0, 0] mL t = zcT N (n' + 1) 4 a.l b.l [0, 0, 0, 0] mL t' := by
    intro k
    induction k with
    | zero =>
      intro n i t q hi hn ht hl hv
      obtain ⟨n, rfl⟩ : ∃ m, n = m + 1 := ⟨n - 1, by omega⟩
      obtain rfl : i = 4 := by omega
      exact ⟨t, q, n, ht, hl, hv, rfl⟩
    | succ k ih =>
      intro n i t q hi hn ht hl hv
      obtain ⟨n, rfl⟩ : ∃ m, n = m + 1 := ⟨n - 1, by omega⟩
      obtain ⟨t', x, h1, h2, h3, h4⟩ := zk0 hN a.l b.l [0, 0, 0, 0] t i (by omega) rfl rfl ht hl n
      have hb : (b.l.getD i 0).toNat <= 18446744073709551615 := by have := (b.l.getD i 0).toNat_lt; omega
      have h5 : lv a.l * (b.l.getD i 0).toNat <= lv a.l * 18446744073709551615 := Nat.mul_le_mul_left _ hb
      have h6 : x * RR <= 18446744073709551615 * RR := Nat.mul_le_mul_right _ (by omega)
      rw [h4]
      exact ih n (i + 1) t' (q + 18446744073709551616 ^ i * x) (by omega) (by omega) h1 (by omega) (by
        rw [Nat.pow_succ, Nat.mul_assoc, h2, zaf]
        generalize lv (List.take i b.l) = A1 at *
        generalize lv a.l = A2 at *
        generalize lv t = A3 at *
        generalize (b.l.getD i 0).toNat = y at *
        generalize (18446744073709551616 ^ i : Nat) = P at *
        grind)
  obtain ⟨t', q', n', h1, h2, h3, h4⟩ := loop 4 N 0 [0, 0, 0, 0, 0] 0 rfl (by omega) rfl (by simp [lv]; omega) (by simp [lv])
  have hq : q172 N a b = zcT N N ((0 : Nat) : Int) a.l b.l [0, 0, 0, 0] mL [0, 0, 0, 0, 0] := rfl
  rw [hq, h4, zgg]
  unfold zhk
  obtain ⟨x, hx1, hx2⟩ := of4 (l := t'.take 4) (by rw [List.length_take]; omega)
  have htt := zp9 h1
  have hfx : fv x = lv (t'.take 4) := by rw [fv, hx2]
  have hal : lv a.l = fv a := rfl
  obtain ⟨r, hr1, hr2⟩ := zu1 hN x (t'.getD 4 0) (by omega) (by omega)
  rw [zac (by omega), cond_false, h1, zaE (by decide), mst, hx1]
  simp only [Option.bind_some]
  rw [hr1]
  refine ⟨r, rfl, ?_⟩
  have e3 : fv x + 18446744073709551616 ^ 4 * (t'.getD 4 0).toNat = lv t' := by rw [hfx, htt]
  rw [e3] at hr2
  refine zmd h3 ?_ ?_
  . split at hr2 <;> omega
  . split at hr2 <;> omega
theorem zqb : lv [14526898881837571181, 3129137299524312099, 419701826671360399, 524908885293268753] * Binv % RR = 18446744073709551616 ^ 4 % RR := by decide +kernel
theorem zk1 {N : Nat} (hN : 10 < N) {a : Fr} (ha : fv a < RR) : ∃ r, q170 N a = some (r, ()) /\ fv r = fv a * 18446744073709551616 ^ 4 % RR := by
  obtain ⟨r, h1, h2⟩ := zgo hN (b := ⟨14526898881837571181, 3129137299524312099, 419701826671360399, 524908885293268753⟩) ha
  refine ⟨r, ?_, ?_⟩
  . unfold q170
    rw [show q213 N = some ((⟨14526898881837571181, 3129137299524312099, 419701826671360399, 524908885293268753⟩ : Fr), ()) from rfl]
    simp only [Option.bind_some]
    rw [h1]
    rfl
  . rw [h2, Nat.mul_assoc, show fv ⟨14526898881837571181, 3129137299524312099, 419701826671360399, 524908885293268753⟩ = lv [14526898881837571181, 3129137299524312099, 419701826671360399, 524908885293268753] from rfl, ← Nat.mul_mod_mod, zqb, Nat.mul_mod_mod]
theorem zbg (x : Nat) : x % RR < RR := Nat.mod_lt _ (by decide)
theorem zu2 {N : Nat} (hN : 10 < N) {a : Fr} (ha : fv a < RR) : ∃ r, q171 N a = some (r, ()) /\ fv r = fv a * Binv % RR := by
  obtain ⟨r, h1, h2⟩ := zgo hN (b := ⟨1, 0, 0, 0⟩) ha
  refine ⟨r, ?_, ?_⟩
  . unfold q171
    rw [h1]
    rfl
  . rw [h2, show fv ⟨1, 0, 0, 0⟩ = 1 from by decide +kernel, Nat.mul_one]
theorem zxO {N : Nat} (hN : 10 < N) {a b : Fr} (ha : fv a < RR) : ∃ r, q76 N a b = some (r, ()) /\ fv r = fv a * fv b % RR := by
  obtain ⟨r, h1, h2⟩ := zgo hN (b := b) ha
  obtain ⟨s, h3, h4⟩ := zk1 hN (a := r) (by rw [h2]; exact zbg _)
  refine ⟨s, ?_, ?_⟩
  . unfold q76
    rw [h1]
    simp only [Option.bind_some]
    rw [h3]
    rfl
  . rw [h4, h2, Nat.mod_mul_mod, Nat.mul_assoc, Nat.mul_comm Binv, ← Nat.mul_mod_mod, zit, Nat.mul_one]
end
section
theorem mst2 {R : Type} {x : Option R} : must true x = x := by rw [mst]
theorem bsm {α β : Type} {a : α} {f : α -> Option β} : Option.bind (some a) f = f a := by rw [Option.bind_some]
theorem znc (a m : List UInt64) (k : Nat) : lv (a.take (k + 1)) < lv (m.take (k + 1)) ↔ ((a.getD k 0).toNat < (m.getD k 0).toNat \/ ((a.getD k 0).toNat = (m.getD k 0).toNat /\ lv (a.take k) < lv (m.take k))) := by
  have h1 := zb1 a k
  have h2 := zb1 m k
  rw [zaf, zaf]
  generalize lv (a.take k) = A at *
  generalize lv (m.take k) = M at *
  generalize (18446744073709551616 ^ k : Nat) = P at *
  generalize (a.getD k 0).toNat = x
  generalize (m.getD k 0).toNat = y
  rcases Nat.lt_trichotomy x y with h | h | h
  . have h3 : P * (x + 1) <= P * y := Nat.mul_le_mul_left _ h
    rw [Nat.mul_add, Nat.mul_one] at h3
    exact ⟨fun _ => .inl h, fun _ => by omega⟩
  . subst h
    constructor
    . intro h; exact .inr ⟨rfl, by omega⟩
    . rintro (h | ⟨_, h⟩) <;> omega
  . have h3 : P * (y + 1) <= P * x := Nat.mul_le_mul_left _ h
    rw [Nat.mul_add, Nat.mul_one] at h3
    constructor
    . intro h; omega
    . rintro (h | ⟨h, _⟩) <;> omega
theorem zu3 (N : Nat) (a m : List UInt64) (hm : m.length < 1000000) (ha : m.length <= a.length) : ∀ (k n : Nat), k <= m.length -> k < n -> zhn N n a m ((k : Int) - 1) = some (decide (lv (a.take k) < lv (m.take k)), ()) := by
  intro k
  induction k with
  | zero =>
    intro n hk hn
    obtain ⟨n, rfl⟩ : ∃ m, n = m + 1 := ⟨n - 1, by omega⟩
    rw [zgh]
    unfold zhm
    rw [zaz (by omega), cond_false]
    simp [lv]
  | succ k ih =>
    intro n hk hn
    obtain ⟨n, rfl⟩ : ∃ m, n = m + 1 := ⟨n - 1, by omega⟩
    rw [zgh]
    unfold zhm
    rw [show ((k + 1 : Nat) : Int) - 1 = (k : Int) by omega, zav, cond_true, zae (show (k : Int) < (a.length : Int) by omega), zae (show (k : Int) < (m.length : Int) by omega)]
    simp only [Bool.and_self, mst, Int.toNat_natCast]
    rw [zdo (by omega) (by omega), ih n (by omega) (by omega)]
    have e := znc a m k
    by_cases h : a.getD k 0 = m.getD k 0
    . rw [h]
      simp only [beq_self_eq_true, Bool.not_true, cond_false]
      rw [h] at e
      congr 2
      rw [Bool.eq_iff_iff, decide_eq_true_iff, decide_eq_true_iff, e]
      constructor
      . intro h; exact .inr ⟨rfl, h⟩
      . rintro (h | ⟨_, h⟩)
        . omega
        . exact h
    . rw [beq_eq_false_iff_ne.2 h]
      simp only [Bool.not_false, cond_true]
      have hne : (a.getD k 0).toNat ≠ (m.getD k 0).toNat := fun h2 => h (UInt64.toNat_inj.1 h2)
      congr 2
      rw [Bool.eq_iff_iff, decide_eq_true_iff, e]
      simp only [ltN, decide_eq_true_iff]
      constructor
      . intro h; exact .inl h
      . rintro (h | ⟨h, _⟩)
        . exact h
        . exact absurd h hne
theorem zk2 {N : Nat} {a m : List UInt64} (hm : m.length < 1000000) (ha : m.length = a.length) (hN : m.length < N) : q168 N a m = some (decide (lv a < lv m), ()) := by
  unfold q168
  rw [zdo (by omega) (by omega), zu3 N a m hm (by omega) m.length N (Nat.le_refl _) hN, List.take_of_length_le (by omega), List.take_of_length_le (by omega)]
theorem zu4 (N : Nat) (m : List UInt64) (tn : Nat) (hm : m.length <= tn) (hb : tn < 1000000) (t0 : List UInt64) : ∀ (k n j : Nat) (c : UInt64) (t : List UInt64), j + k = m.length -> k < n -> t.length = tn -> c.toNat <= 1 -> (∀ p, j <= p -> t.getD p 0 = t0.getD p 0) ->
    lv (t.take j) + lv (m.take j) = lv (t0.take j) + 18446744073709551616 ^ j * c.toNat ->
    ∃ (c' : UInt64) (t' : List UInt64), t'.length = tn /\ c'.toNat <= 1 /\ lv (t'.take m.length) + lv m = lv (t0.take m.length) + 18446744073709551616 ^ m.length * c'.toNat /\ zhp N n 0 tn m c (j : Int) t = some (t', ()) := by
  intro k
  induction k with
  | zero =>
    intro n j c t hj hn ht hc hp hv
    obtain ⟨n, rfl⟩ : ∃ m, n = m + 1 := ⟨n - 1, by omega⟩
    obtain rfl : j = m.length := by omega
    rw [List.take_of_length_le (l := m) (by omega)] at hv
    refine ⟨c, t, ht, hc, hv, ?_⟩
    rw [zgi]
    unfold zho
    rw [zac (by omega), cond_false]
  | succ k ih =>
    intro n j c t hj hn ht hc hp hv
    obtain ⟨n, rfl⟩ : ∃ m, n = m + 1 := ⟨n - 1, by omega⟩
    obtain ⟨s, d, h1, h2, h3⟩ := zkZ (x := t.getD j 0) (y := m.getD j 0) hc
    rw [zgi]
    unfold zho
    rw [zay (by omega)]
    simp only [zbk, zav, Int.toNat_natCast, Nat.zero_add]
    rw [zau (show j < m.length by omega), zau (show j < tn by omega), cond_true]
    simp only [Bool.and_self, mst, h1, Option.bind_some]
    refine ih n (j + 1) _ _ (by omega) (by omega) (by rw [zat]; exact ht) h2 ?_ ?_
    . intro p h
      rw [zaX, if_neg (by omega)]
      exact hp p (by omega)
    . rw [zaJ _ _ (by omega), zaf m, zaf t0, ← hp j (Nat.le_refl _), Nat.pow_succ]
      generalize lv (List.take j t) = A1 at *
      generalize lv (List.take j m) = A2 at *
      generalize lv (List.take j t0) = A3 at *
      generalize (18446744073709551616 ^ j : Nat) = P at *
      generalize (m.getD j 0).toNat = y at *
      generalize (t.getD j 0).toNat = x at *
      generalize d.toNat = d0 at *
      generalize s.toNat = s at *
      generalize c.toNat = c0 at *
      have e : P * s + P * y + P * c0 = P * x + P * 18446744073709551616 * d0 := by
        have : P * (s + y + c0) = P * (x + 18446744073709551616 * d0) := by rw [h3]
        grind
      grind
theorem zqc {N : Nat} {t m : List UInt64} (hm : m.length <= t.length) (hb : t.length < 1000000) (hN : m.length < N) :
    ∃ (c' : UInt64) (t' : List UInt64), t'.length = t.length /\ c'.toNat <= 1 /\ lv (t'.take m.length) + lv m = lv (t.take m.length) + 18446744073709551616 ^ m.length * c'.toNat /\ q214 N t m = some (t', ()) :=
  zu4 N m t.length hm hb t m.length N 0 0 t (by omega) hN rfl (by decide) (fun _ _ => rfl) (by simp [lv])
theorem alg1 (B A1 A2 A3 P x y w c0 c1 s : Nat) (hv : A1 + P * c0 = A2 + x * A3) (h4 : s + B * c1 = x * y + w + c0) : A1 + P * s + P * B * c1 = A2 + P * w + x * (A3 + P * y) := by
  have e : P * s + P * B * c1 = P * (x * y + w + c0) := by rw [← h4]; grind
  grind
theorem alg2 (B A1 A2 A3 P x y w c0 c1 s : Nat) (hv : B * (A1 + P * c0) = A2 + x * A3) (h4 : s + B * c1 = x * y + w + c0) : B * (A1 + P * s + P * B * c1) = A2 + P * B * w + x * (A3 + P * B * y) := by
  have e : P * s + P * B * c1 = P * (x * y + w + c0) := by rw [← h4]; grind
  grind
theorem znd (N : Nat) (A : List UInt64 -> List UInt64 -> List UInt64 -> Int -> UInt64 -> Int -> List UInt64 -> Option (List UInt64 × Unit)) (a b m t0 : List UInt64) (iv : UInt64) (i : Nat) (hi : i < 4) (ha : a.length = 4) (hb : b.length = 4) : ∀ (k n j : Nat) (c : UInt64) (t : List UInt64), j + k = 4 -> k < n -> t.length = 6 ->
    lv (t.take j) + 18446744073709551616 ^ j * c.toNat = lv (t0.take j) + (a.getD i 0).toNat * lv (b.take j) -> (∀ p, j <= p -> t.getD p 0 = t0.getD p 0) ->
    ∃ (c' : UInt64) (t' : List UInt64) (n' : Nat), t'.length = 6 /\ lv (t'.take 4) + 18446744073709551616 ^ 4 * c'.toNat = lv (t0.take 4) + (a.getD i 0).toNat * lv b /\ t'.getD 4 0 = t0.getD 4 0 /\
      zdM N A n a b m 4 iv (i : Int) c (j : Int) t = zdM N A (n' + 1) a b m 4 iv (i : Int) c' 4 t' := by
  intro k
  induction k with
  | zero =>
    intro n j c t hj hn ht hv hp
    obtain ⟨n, rfl⟩ : ∃ m, n = m + 1 := ⟨n - 1, by omega⟩
    obtain rfl : j = 4 := by omega
    rw [List.take_of_length_le (l := b) (by omega)] at hv
    exact ⟨c, t, n, ht, hv, hp 4 (Nat.le_refl _), rfl⟩
  | succ k ih =>
    intro n j c t hj hn ht hv hp
    obtain ⟨n, rfl⟩ : ∃ m, n = m + 1 := ⟨n - 1, by omega⟩
    obtain ⟨hi', lo, h1, s1, k1, h2, s2, k2, h3, h4⟩ := mac' N (a.getD i 0) (b.getD j 0) (t.getD j 0) c
    rw [ze3]
    unfold zdL
    rw [zae (show (j : Int) < 4 by omega), cond_true, zay (by omega)]
    simp only [zbk, zav, Int.toNat_natCast]
    rw [zau (show i < a.length by omega), zau (show j < b.length by omega), zau (show j < t.length by omega)]
    simp only [Bool.and_self, mst2, h1, h2, h3, bsm]
    refine ih n (j + 1) _ _ (by omega) (by omega) (by rw [zat]; exact ht) ?_ ?_
    . rw [zaJ _ _ (by omega), zaf t0, zaf b, ← hp j (Nat.le_refl _), Nat.pow_succ]
      exact alg1 _ _ _ _ _ _ _ _ _ _ _ hv h4
    . intro p h
      rw [zaX, if_neg (by omega)]
      exact hp p (by omega)
theorem zne (N : Nat) (A : List UInt64 -> List UInt64 -> List UInt64 -> Int -> UInt64 -> Int -> List UInt64 -> Option (List UInt64 × Unit)) (a b m t0 : List UInt64) (iv x : UInt64) (i : Int) (hm : m.length = 4) : ∀ (k n j : Nat) (c : UInt64) (t : List UInt64), 1 <= j -> j + k = 4 -> k < n -> t.length = 6 ->
    18446744073709551616 * (lv (t.take (j - 1)) + 18446744073709551616 ^ (j - 1) * c.toNat) = lv (t0.take j) + x.toNat * lv (m.take j) -> (∀ p, j - 1 <= p -> t.getD p 0 = t0.getD p 0) ->
    ∃ (c' : UInt64) (t' : List UInt64) (n' : Nat), t'.length = 6 /\ 18446744073709551616 * (lv (t'.take 3) + 18446744073709551616 ^ 3 * c'.toNat) = lv (t0.take 4) + x.toNat * lv m /\ t'.getD 4 0 = t0.getD 4 0 /\ t'.getD 5 0 = t0.getD 5 0 /\
      zc5 N A n a b m 4 iv i c x (j : Int) t = zc5 N A (n' + 1) a b m 4 iv i c' x 4 t' := by
  intro k
  induction k with
  | zero =>
    intro n j c t h1 hj hn ht hv hp
    obtain ⟨n, rfl⟩ : ∃ m, n = m + 1 := ⟨n - 1, by omega⟩
    obtain rfl : j = 4 := by omega
    rw [List.take_of_length_le (l := m) (by omega)] at hv
    exact ⟨c, t, n, ht, hv, hp 4 (by omega), hp 5 (by omega), rfl⟩
  | succ k ih =>
    intro n j c t hj1 hj hn ht hv hp
    obtain ⟨n, rfl⟩ : ∃ m, n = m + 1 := ⟨n - 1, by omega⟩
    obtain ⟨j, rfl⟩ : ∃ p, j = p + 1 := ⟨j - 1, by omega⟩
    obtain ⟨hi', lo, h1, s1, k1, h2, s2, k2, h3, h4⟩ := mac' N x (m.getD (j + 1) 0) (t.getD (j + 1) 0) c
    rw [ze2]
    unfold zdK
    rw [zae (show ((j + 1 : Nat) : Int) < 4 by omega), cond_true, zay (by omega), ziq (by omega)]
    simp only [zbk, zav, Int.toNat_natCast]
    rw [zau (show j + 1 < m.length by omega), zau (show j + 1 < t.length by omega), zau (show j < t.length by omega)]
    simp only [Bool.and_self, mst2, h1, h2, h3, bsm]
    refine ih n (j + 1 + 1) _ _ (by omega) (by omega) (by omega) (by rw [zat]; exact ht) ?_ ?_
    . simp only [Nat.add_sub_cancel] at hv ⊢
      rw [zaJ _ _ (by omega), zaf t0, zaf m, ← hp (j + 1) (by omega), Nat.pow_succ]
      exact alg2 _ _ _ _ _ _ _ _ _ _ _ hv h4
    . intro p h
      rw [zaX, if_neg (by omega)]
      exact hp p (by omega)
end
section
theorem zk3 {t : List UInt64} (h : t.length = 6) : lv (t.take 5) = lv (t.take 4) + 18446744073709551616 ^ 4 * (t.getD 4 0).toNat := zaf t 4
theorem e45 : wr (4 + 1) = ((5 : Nat) : Int) := by decide +kernel
theorem e43 : wr (4 - 1) = ((3 : Nat) : Int) := by decide +kernel
theorem i4 : (4 : Int) = ((4 : Nat) : Int) := rfl
theorem zk4 (N : Nat) (A : List UInt64 -> List UInt64 -> List UInt64 -> Int -> UInt64 -> Int -> List UInt64 -> Option (List UInt64 × Unit)) (A14 : List UInt64 -> List UInt64 -> List UInt64 -> Int -> UInt64 -> Int -> UInt64 -> Int -> List UInt64 -> Option (List UInt64 × Unit)) (a b : List UInt64) (i : Int) (c iv : UInt64) (t : List UInt64) (ht : t.length = 6)
    {top x hi0 lo0 s0 k0 : UInt64} (h1 : kAdd (t.getD 4 0) c 0 = some (top, x)) (h2 : q163 N (t.getD 0 0 * iv) 18446744069414584321 = some (hi0, lo0, ())) (h3 : kAdd (t.getD 0 0) lo0 0 = some (s0, k0)) :
    zdL N A A14 a b mL 4 iv i c 4 t = zc5 N A N a b mL 4 iv i (hi0 + k0) (t.getD 0 0 * iv) 1 (setL (setL t 4 top) 5 x) := by
  unfold zdL
  rw [zac (by omega), cond_false, ht, e45, i4]
  simp only [zav, zbk, Int.toNat_natCast, zat, ht]
  rw [zau (by omega), zau (by omega)]
  simp only [Bool.and_self, mst2, h1, bsm]
  rw [zae (show (0 : Int) < ((6 : Nat) : Int) by omega), show List.length mL = 4 from rfl, zae (show (0 : Int) < ((4 : Nat) : Int) by omega)]
  have e0 : List.getD (setL (setL t 4 top) 5 x) 0 0 = t.getD 0 0 := by
    rw [zaX, if_neg (by omega), zaX, if_neg (by omega)]
  rw [e0, show List.getD mL 0 0 = 18446744069414584321 from rfl]
  simp only [mst2, h2, h3, bsm]
theorem zk5 (N : Nat) (A : List UInt64 -> List UInt64 -> List UInt64 -> Int -> UInt64 -> Int -> List UInt64 -> Option (List UInt64 × Unit)) (A27 : List UInt64 -> List UInt64 -> List UInt64 -> Int -> UInt64 -> Int -> UInt64 -> UInt64 -> Int -> List UInt64 -> Option (List UInt64 × Unit)) (a b : List UInt64) (i : Nat) (hi : i < 100) (c iv x : UInt64) (t : List UInt64) (ht : t.length = 6)
    {s k : UInt64} (h1 : kAdd (t.getD 4 0) c 0 = some (s, k)) :
    zdK N A A27 a b mL 4 iv (i : Int) c x 4 t = A a b mL 4 iv ((i + 1 : Nat) : Int) (setL (setL t 3 s) 4 (t.getD 5 0 + k)) := by
  unfold zdK
  rw [zac (by omega), cond_false, ht, e45, e43, i4, zay (by omega)]
  simp only [zav, zbk, Int.toNat_natCast, zat, ht]
  rw [zau (by omega), zau (by omega), zau (by omega)]
  simp only [Bool.and_self, mst2, h1, bsm]
theorem zjp {N : Nat} (hN : 10 < N) (a b t : List UInt64) (i : Nat) (hi : i < 4) (ha : a.length = 4) (hb : b.length = 4) (ht : t.length = 6) (hlt : lv (t.take 5) < lv b + RR) (n : Nat) :
    ∃ t' x, t'.length = 6 /\ 18446744073709551616 * lv (t'.take 5) = lv (t.take 5) + (a.getD i 0).toNat * lv b + x * RR /\ x < 18446744073709551616 /\
      zbl N (n + 1) a b mL 4 18446744069414584319 (i : Int) t = zbl N n a b mL 4 18446744069414584319 ((i + 1 : Nat) : Int) t' := by
  have hal := zgM b
  rw [hb] at hal
  have hRR : RR < 18446744073709551616 ^ 4 := by decide
  have htt := zk3 ht
  have ht4 : (t.getD 4 0).toNat <= 1 := by omega
  obtain ⟨c1, t1, n1, g1, g2, g3, g4⟩ := znd N (zbl N n) a b mL t 18446744069414584319 i hi ha hb 4 N 0 0 t rfl (by omega) ht (by simp [lv]) (fun _ _ => rfl)
  obtain ⟨top, more, f1, f2, f3⟩ := zna (t1.getD 4 0) c1
  obtain ⟨hi0, lo0, e1, e2⟩ := zir N (t1.getD 0 0 * 18446744069414584319) 18446744069414584321
  obtain ⟨s0, k0, d1, d2, d3⟩ := zna (t1.getD 0 0) lo0
  have hs0 : s0.toNat = 0 := by
    have hl := zqa (t1.getD 0 0)
    have := (t1.getD 0 0).toNat_lt
    have := lo0.toNat_lt
    have := s0.toNat_lt
    rw [show UInt64.toNat 18446744069414584321 = 18446744069414584321 from rfl] at e2
    rw [← e2] at hl
    omega
  have hc : (hi0 + k0).toNat = hi0.toNat + k0.toNat := by
    have := hi0.toNat_lt
    have hx : (t1.getD 0 0 * 18446744069414584319).toNat * UInt64.toNat 18446744069414584321 <= 18446744073709551615 * 18446744069414584321 := Nat.mul_le_mul (by have := (t1.getD 0 0 * 18446744069414584319).toNat_lt; omega) (Nat.le_refl _)
    rw [UInt64.toNat_add]
    omega
  have hst : (setL (setL t1 4 top) 5 more).length = 6 := by rw [zat, zat]; exact g1
  have hsT : ∀ j, j <= 4 -> List.take j (setL (setL t1 4 top) 5 more) = List.take j t1 := fun j hj => by rw [zc6 _ _ (by omega), zc6 _ _ hj]
  have hv2 : 18446744073709551616 * (lv (List.take (1 - 1) (setL (setL t1 4 top) 5 more)) + 18446744073709551616 ^ (1 - 1) * (hi0 + k0).toNat) = lv (List.take 1 (setL (setL t1 4 top) 5 more)) + (t1.getD 0 0 * 18446744069414584319).toNat * lv (mL.take 1) := by
    have e5 : lv (t1.take 1) = (t1.getD 0 0).toNat := by rw [zaf]; simp [lv]
    have e6 : lv (mL.take 1) = 18446744069414584321 := by decide +kernel
    rw [hsT 1 (by omega), e5, e6, hc]
    rw [show UInt64.toNat 18446744069414584321 = 18446744069414584321 from rfl] at e2
    simp only [Nat.sub_self, List.take_zero, lv, Nat.pow_zero]
    omega
  obtain ⟨c2, t2, n2, p1, p2, p4, p5, p3⟩ := zne N (zbl N n) a b mL (setL (setL t1 4 top) 5 more) 18446744069414584319 (t1.getD 0 0 * 18446744069414584319) (i : Int) rfl 3 N 1 (hi0 + k0) (setL (setL t1 4 top) 5 more) (Nat.le_refl _) rfl (by omega) hst hv2 (fun _ _ => rfl)
  rw [zaX, if_neg (by omega), zaX, if_pos ⟨rfl, by omega⟩] at p4
  rw [zaX, if_pos ⟨rfl, by rw [zat]; omega⟩] at p5
  obtain ⟨t3, k3, r1, r2, r3⟩ := zna (t2.getD 4 0) c2
  rw [hsT 4 (Nat.le_refl _)] at p2
  refine ⟨setL (setL t2 3 t3) 4 (t2.getD 5 0 + k3), (t1.getD 0 0 * 18446744069414584319).toNat, by rw [zat, zat]; exact p1, ?_, (t1.getD 0 0 * 18446744069414584319).toNat_lt, ?_⟩
  . have hm : (t2.getD 5 0 + k3).toNat = more.toNat + k3.toNat := by rw [p5, UInt64.toNat_add]; omega
    have hL : lv (List.take 5 (setL (setL t2 3 t3) 4 (t2.getD 5 0 + k3))) = lv (t2.take 3) + 18446744073709551616 ^ 3 * t3.toNat + 18446744073709551616 ^ 4 * (more.toNat + k3.toNat) := by
      rw [zk3 (by rw [zat, zat]; exact p1), zc6 _ _ (Nat.le_refl _), zaX, if_pos ⟨rfl, by rw [zat]; omega⟩, zaJ _ _ (by omega), hm]
    rw [hL, htt]
    rw [zgN] at p2
    rw [g3] at f3
    rw [p4] at r3
    generalize lv (List.take 3 t2) = A1 at *
    generalize lv (List.take 4 t1) = A2 at *
    generalize lv (List.take 4 t) = A3 at *
    generalize (t1.getD 0 0 * 18446744069414584319).toNat * RR = X at *
    generalize (a.getD i 0).toNat * lv b = Y at *
    omega
  . rw [ze4]
    unfold zeE
    rw [zae (show (i : Int) < 4 by omega), cond_true]
    refine g4.trans ?_
    rw [ze3, zk4 N _ _ a b (i : Int) c1 18446744069414584319 t1 g1 f1 e1 d1]
    refine p3.trans ?_
    rw [ze2, zk5 N _ _ a b i (by omega) c2 _ _ t2 p1 r1]
theorem alg3 (P A1 A2 A3 y q x M : Nat) (hv : P * A3 = A1 * A2 + q * M) : P * (A3 + y * A2 + x * M) = (A1 + P * y) * A2 + (q + P * x) * M := by grind
theorem zk6 {N : Nat} (hN : 10 < N) (a b t : List UInt64) (n : Nat) (ht : t.length = 6) (hb : lv (t.take 5) < RR + 18446744073709551616 ^ 4) :
    ∃ r, r.length = 4 /\ zbl N (n + 1) a b mL 4 18446744069414584319 4 t = some (r, ()) /\ lv r = if lv (t.take 5) < RR then lv (t.take 5) else lv (t.take 5) - RR := by
  have hRR : RR < 18446744073709551616 ^ 4 := by decide
  have htt := zk3 ht
  have h4 := zb1 t 4
  obtain ⟨c', t', g1, g2, g3, g4⟩ := zqc (N := N) (t := t) (m := mL) (by rw [ht]; decide) (by omega) (by show 4 < N; omega)
  have hml : mL.length = 4 := rfl
  rw [hml, zgN] at g3
  rw [ht] at g1
  have hl4 := zb1 t' 4
  have e4 : Int.toNat (((4 : Nat) : Int) - 0) = 4 := by decide
  rw [ze4]
  unfold zeE
  rw [zac (by omega), cond_false, ht, i4]
  have c1 : lv (t.take 5) < RR -> (t.getD 4 0).toNat = 0 := fun h => by omega
  simp only [zav, zbk, zoA, Int.toNat_natCast, e4]
  rw [zau (show 4 < 6 by omega), zaE (show 4 <= 6 by omega), zau (show 0 < 6 by omega), zau (show 0 < 4 by omega)]
  simp only [Bool.and_self, mst2, g4, bsm, g1]
  rw [zaE (show 4 <= 6 by omega), show Nat.beq 6 6 = true from rfl]
  simp only [mst2]
  by_cases hz : t.getD 4 0 = 0
  . rw [hz]
    have hz' : (t.getD 4 0).toNat = 0 := by rw [hz]; rfl
    simp only [beq_self_eq_true, Bool.not_true, cond_false]
    rw [zk2 (N := N) (a := t.take 4) (m := mL) (by decide) (by rw [List.length_take]; omega) (by show 4 < N; omega), zgN]
    simp only [bsm]
    by_cases h : lv (t.take 4) < RR
    . rw [decide_eq_true h]
      simp only [Bool.not_true, cond_false]
      have h5 : lv (t.take 5) = lv (t.take 4) := by rw [htt, hz', Nat.mul_zero, Nat.add_zero]
      refine ⟨_, by rw [List.length_take, ht]; rfl, rfl, ?_⟩
      rw [h5, if_pos h]
    . rw [decide_eq_false h]
      simp only [Bool.not_false, cond_true]
      have h5 : lv (t.take 5) = lv (t.take 4) := by rw [htt, hz', Nat.mul_zero, Nat.add_zero]
      refine ⟨_, by rw [List.length_take, g1]; rfl, rfl, ?_⟩
      rw [h5, if_neg h]
      rw [h5] at hb
      omega
  . have hz' : (t.getD 4 0).toNat ≠ 0 := fun h => hz (UInt64.toNat_inj.1 h)
    rw [beq_eq_false_iff_ne.2 hz]
    simp only [Bool.not_false, cond_true]
    have hn : ¬ lv (t.take 5) < RR := fun h => hz' (c1 h)
    refine ⟨_, by rw [List.length_take, g1]; rfl, rfl, ?_⟩
    rw [if_neg hn]
    omega
theorem zbG (N n : Nat) (a b : List UInt64) (iv : UInt64) (i : Nat) (hi : i < 6) : zdw N (n + 1) a b mL 4 iv (i : Int) = zdw N n a b mL 4 (iv * (2 - 18446744069414584321 * iv)) ((i + 1 : Nat) : Int) := by
  rw [zgj]
  unfold zhq
  rw [zae (by omega), cond_true, show List.length mL = 4 from rfl, zae (by omega), mst2, zay (by omega), show List.getD mL 0 0 = 18446744069414584321 from rfl]
theorem znf (N n : Nat) (a b : List UInt64) (iv : UInt64) : zdw N (n + 1) a b mL 4 iv ((6 : Nat) : Int) = zbl N N a b mL 4 (0 - iv) 0 [0, 0, 0, 0, 0, 0] := by
  rw [zgj]
  unfold zhq
  have e : wr (4 + 2) = 6 := by decide +kernel
  have e1 : Int.toNat 6 = 6 := by decide
  have e2 : List.replicate 6 (0 : UInt64) = [0, 0, 0, 0, 0, 0] := by decide
  rw [zac (by omega), cond_false, e, e1, e2, zaO (by omega), zax (by omega), zaE (by omega)]
  simp only [Bool.and_self, mst2]
def ivs (x : UInt64) : UInt64 := x * (2 - 18446744069414584321 * x)
theorem zqd (N : Nat) (a b : List UInt64) (n : Nat) : zdw N (n + 7) a b mL 4 18446744069414584321 0 = zbl N N a b mL 4 18446744069414584319 0 [0, 0, 0, 0, 0, 0] := by
  have e : (0 : UInt64) - ivs (ivs (ivs (ivs (ivs (ivs 18446744069414584321))))) = 18446744069414584319 := by decide +kernel
  refine (zbG N (n + 6) a b _ 0 (by omega)).trans ((zbG N (n + 5) a b _ 1 (by omega)).trans ((zbG N (n + 4) a b _ 2 (by omega)).trans ((zbG N (n + 3) a b _ 3 (by omega)).trans ((zbG N (n + 2) a b _ 4 (by omega)).trans ((zbG N (n + 1) a b _ 5 (by omega)).trans ((znf N n a b _).trans ?_))))))
  exact congrArg (fun v => zbl N N a b mL 4 v 0 [0, 0, 0, 0, 0, 0]) e
theorem zqe {N : Nat} (hN : 10 < N) {a b : List UInt64} (ha : a.length = 4) (hb : b.length = 4) (hlt : lv b < RR) : ∃ r, r.length = 4 /\ q184 N a b mL = some (r, ()) /\ lv r = lv a * lv b * Binv % RR := by
  have hRR : RR < 18446744073709551616 ^ 4 := by decide
  have hR0 : 0 < RR := by decide
  have loop : ∀ (k n i : Nat) (t : List UInt64) (q : Nat), i + k = 4 -> k < n -> t.length = 6 -> lv (t.take 5) < lv b + RR -> 18446744073709551616 ^ i * lv (t.take 5) = lv (a.take i) * lv b + q * RR ->
      ∃ (t' : List UInt64) (q' n' : Nat), t'.length = 6 /\ lv (t'.take 5) < lv b + RR /\ 18446744073709551616 ^ 4 * lv (t'.take 5) = lv a * lv b + q' * RR /\ zbl N n a b mL 4 18446744069414584319 (i : Int) t = zbl N (n' + 1) a b mL 4 18446744069414584319 4 t' := by
    intro k
    induction k with
    | zero =>
      intro n i t q hi hn ht hl hv
      obtain ⟨n, rfl⟩ : ∃ m, n = m + 1 := ⟨n - 1, by omega⟩
      obtain rfl : i = 4 := by omega
      rw [List.take_of_length_le (l := a) (by omega)] at hv
      exact ⟨t, q, n, ht, hl, hv, rfl⟩
    | succ k ih =>
      intro n i t q hi hn ht hl hv
      obtain ⟨n, rfl⟩ : ∃ m, n = m + 1 := ⟨n - 1, by omega⟩
      obtain ⟨t', x, h1, h2, h3, h4⟩ := zjp hN a b t i (by omega) ha hb ht hl n
      have hb : (a.getD i 0).toNat <= 18446744073709551615 := by have := (a.getD i 0).toNat_lt; omega
      have h5 : (a.getD i 0).toNat * lv b <= 18446744073709551615 * lv b := Nat.mul_le_mul_right _ hb
      have h6 : x * RR <= 18446744073709551615 * RR := Nat.mul_le_mul_right _ (by omega)
      rw [h4]
      exact ih n (i + 1) t' (q + 18446744073709551616 ^ i * x) (by omega) (by omega) h1 (by omega) (by
        rw [Nat.pow_succ, Nat.mul_assoc, h2, zaf a]
        exact alg3 _ _ _ _ _ _ _ _ hv)
  obtain ⟨t', q', n', h1, h2, h3, h4⟩ := loop 4 N 0 [0, 0, 0, 0, 0, 0] 0 rfl (by omega) rfl (by simp [lv]; omega) (by simp [lv])
  obtain ⟨n, hn⟩ : ∃ n, N = n + 7 := ⟨N - 7, by omega⟩
  have hq : q184 N a b mL = zdw N N a b mL 4 18446744069414584321 0 := rfl
  obtain ⟨r, hr1, hr2, hr3⟩ := zk6 hN a b t' n' h1 (by omega)
  refine ⟨r, hr1, ?_, ?_⟩
  . rw [hq]
    have e := zqd N a b n
    rw [← hn] at e
    rw [e]
    exact h4.trans hr2
  . refine zmd h3 ?_ ?_
    . split at hr3 <;> omega
    . split at hr3 <;> omega
end
end Go.Proofs.Ytgimohchocjgcaa.V
