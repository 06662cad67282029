import Derived.Test.YtgimohchocjgcaaVLR
import Derived.KernelRfl
set_option linter.unusedVariables false
set_option linter.unusedSimpArgs false
namespace Go.Proofs.Ytgimohchocjgcaa.V
section
theorem mst {R : Type} {x : Option R} : must true x = x := rfl
def RR : Nat := 52435875175126190479447740508185965837690552500527637822603658699938581184513
def Binv : Nat := 12549076656233958353659347336803947287922716146853412054870763148006372261952
theorem zmx : 18446744073709551616 ^ 4 * Binv % RR = 1 := by decide +kernel
def fv (x : Fr) : Nat := lv x.l
theorem zBV (x : Fr) : fv x < 18446744073709551616 ^ 4 := zhM x.l
theorem zBW {x y : Fr} (h : fv x = fv y) : x = y := by
 obtain ⟨a, b, c, d⟩ := x
 obtain ⟨a', b', c', d'⟩ := y
 simp only [fv, Fr.l, lv] at h
 have h1 := a.toNat_lt
 have h2 := b.toNat_lt
 have h3 := c.toNat_lt
 have h4 := d.toNat_lt
 have h5 := a'.toNat_lt
 have h6 := b'.toNat_lt
 have h7 := c'.toNat_lt
 have h8 := d'.toNat_lt
 have e1 : a.toNat = a'.toNat := by omega
 have e2 : b.toNat = b'.toNat := by omega
 have e3 : c.toNat = c'.toNat := by omega
 have e4 : d.toNat = d'.toNat := by omega
 rw [UInt64.toNat_inj.1 e1, UInt64.toNat_inj.1 e2, UInt64.toNat_inj.1 e3, UInt64.toNat_inj.1 e4]
theorem of4 {l : List UInt64} (h : l.length = 4) : ∃ x : Fr, Fr.of? l = some x /\ x.l = l := by
 match l, h with
 | [a, b, c, d], _ => exact ⟨⟨a, b, c, d⟩, rfl, rfl⟩
theorem mac (N : Nat) (x y t c : UInt64) : ∃ hi lo, q163 N x y = some (hi, lo, ()) /\ ∃ s1 k1, kAdd lo t 0 = some (s1, k1) /\ ∃ s2 k2, kAdd s1 c 0 = some (s2, k2) /\ s2.toNat + 18446744073709551616 * (hi + k1 + k2).toNat = x.toNat * y.toNat + t.toNat + c.toNat := by
 obtain ⟨hi, lo, h1, h2⟩ := zjH N x y
 obtain ⟨s1, k1, h3, h4, h5⟩ := zc7 (x := lo) (y := t) (c := 0) (by decide)
 obtain ⟨s2, k2, h6, h7, h8⟩ := zc7 (x := s1) (y := c) (c := 0) (by decide)
 refine ⟨hi, lo, h1, s1, k1, h3, s2, k2, h6, ?_⟩
 have hz : (0 : UInt64).toNat = 0 := rfl
 have hxy : x.toNat * y.toNat <= 18446744073709551615 * 18446744073709551615 := Nat.mul_le_mul (by have := x.toNat_lt; omega) (by have := y.toNat_lt; omega)
 have ht := t.toNat_lt
 have hc := c.toNat_lt
 have hs := s2.toNat_lt
 rw [hz] at h5 h8
 have e : (hi + k1 + k2).toNat = hi.toNat + k1.toNat + k2.toNat := by
  rw [UInt64.toNat_add, UInt64.toNat_add]
  omega
 rw [e]
 omega
theorem mac' (N : Nat) (x y t c : UInt64) : ∃ hi lo, q163 N x y = some (hi, lo, ()) /\ ∃ s1 k1, kAdd t lo 0 = some (s1, k1) /\ ∃ s2 k2, kAdd s1 c 0 = some (s2, k2) /\ s2.toNat + 18446744073709551616 * (hi + k1 + k2).toNat = x.toNat * y.toNat + t.toNat + c.toNat := by
 obtain ⟨hi, lo, h1, h2⟩ := zjH N x y
 obtain ⟨s1, k1, h3, h4, h5⟩ := zc7 (x := t) (y := lo) (c := 0) (by decide)
 obtain ⟨s2, k2, h6, h7, h8⟩ := zc7 (x := s1) (y := c) (c := 0) (by decide)
 refine ⟨hi, lo, h1, s1, k1, h3, s2, k2, h6, ?_⟩
 have hz : (0 : UInt64).toNat = 0 := rfl
 have hxy : x.toNat * y.toNat <= 18446744073709551615 * 18446744073709551615 := Nat.mul_le_mul (by have := x.toNat_lt; omega) (by have := y.toNat_lt; omega)
 have ht := t.toNat_lt
 have hc := c.toNat_lt
 have hs := s2.toNat_lt
 rw [hz] at h5 h8
 have e : (hi + k1 + k2).toNat = hi.toNat + k1.toNat + k2.toNat := by
  rw [UInt64.toNat_add, UInt64.toNat_add]
  omega
 rw [e]
 omega
theorem zoI (x y : UInt64) : ∃ s d, kAdd x y 0 = some (s, d) /\ d.toNat <= 1 /\ s.toNat + 18446744073709551616 * d.toNat = x.toNat + y.toNat := by
 obtain ⟨s, d, h1, h2, h3⟩ := zc7 (x := x) (y := y) (c := 0) (by decide)
 exact ⟨s, d, h1, h2, by simpa using h3⟩
theorem zsk (N : Nat) (A : Int -> List UInt64 -> List UInt64 -> List UInt64 -> List UInt64 -> List UInt64 -> Option (Fr × Unit)) (a b z m t0 : List UInt64) (i : Nat) (hi : i < 4) (ha : a.length = 4) : ∀ (k n j : Nat) (c : UInt64) (t : List UInt64), j + k = 4 -> k < n -> t.length = 5 ->
  lv (t.take j) + 18446744073709551616 ^ j * c.toNat = lv (t0.take j) + lv (a.take j) * (b.getD i 0).toNat -> (∀ p, j <= p -> t.getD p 0 = t0.getD p 0) ->
  ∃ (c' : UInt64) (t' : List UInt64) (n' : Nat), t'.length = 5 /\ lv (t'.take 4) + 18446744073709551616 ^ 4 * c'.toNat = lv (t0.take 4) + lv a * (b.getD i 0).toNat /\ t'.getD 4 0 = t0.getD 4 0 /\
   zg6 N A n (i : Int) c (i : Int) (j : Int) a b z m t = zg6 N A (n' + 1) (i : Int) c' (i : Int) 4 a b z m t' := by
 intro k
 induction k with
 | zero =>
  intro n j c t hj hn ht hv hp
  obtain ⟨n, rfl⟩ : ∃ m, n = m + 1 := ⟨n - 1, by omega⟩
  obtain rfl : j = 4 := by omega
  rw [List.take_of_length_le (l := a) (by omega)] at hv
  exact ⟨c, t, n, ht, hv, hp 4 (Nat.le_refl _), rfl⟩
 | succ k ih =>
  intro n j c t hj hn ht hv hp
  obtain ⟨n, rfl⟩ : ∃ m, n = m + 1 := ⟨n - 1, by omega⟩
  obtain ⟨hi', lo, h1, s1, k1, h2, s2, k2, h3, h4⟩ := mac N (a.getD j 0) (b.getD i 0) (t.getD j 0) c
  rw [zg7]
  unfold zik
  rw [zab (by omega), cond_true, zar (by omega)]
  simp only [zbb, zas, Int.toNat_natCast]
  rw [zaB (by omega), zaB (by omega), zaB (by omega)]
  simp only [Bool.and_self, mst, h1, h2, h3, Option.bind_some]
  refine ih n (j + 1) _ _ (by omega) (by omega) (by rw [zau]; exact ht) ?_ ?_
  ·rw [zaL _ _ (by omega), zam t0, zam a, ← hp j (Nat.le_refl _), Nat.pow_succ]
   generalize lv (List.take j t) = A1 at *
   generalize lv (List.take j t0) = A2 at *
   generalize lv (List.take j a) = A3 at *
   generalize (18446744073709551616 ^ j : Nat) = P at *
   generalize (b.getD i 0).toNat = y at *
   generalize (a.getD j 0).toNat = x at *
   generalize (t.getD j 0).toNat = w at *
   generalize (hi' + k1 + k2).toNat = c1 at *
   generalize s2.toNat = s at *
   generalize c.toNat = c0 at *
   have e : P * s + P * 18446744073709551616 * c1 = P * (x * y + w + c0) := by rw [← h4]; grind
   grind
  ·intro p h
   rw [zaG, if_neg (by omega)]
   exact hp p (by omega)
theorem zoJ (N : Nat) (A : Int -> List UInt64 -> List UInt64 -> List UInt64 -> List UInt64 -> List UInt64 -> Option (Fr × Unit)) (a b z m t0 : List UInt64) (i : Int) (top more x : UInt64) (hm : m.length = 4) : ∀ (k n j : Nat) (c : UInt64) (t : List UInt64), 1 <= j -> j + k = 4 -> k < n -> t.length = 5 ->
  18446744073709551616 * (lv (t.take (j - 1)) + 18446744073709551616 ^ (j - 1) * c.toNat) = lv (t0.take j) + x.toNat * lv (m.take j) -> (∀ p, j - 1 <= p -> t.getD p 0 = t0.getD p 0) ->
  ∃ (c' : UInt64) (t' : List UInt64) (n' : Nat), t'.length = 5 /\ 18446744073709551616 * (lv (t'.take 3) + 18446744073709551616 ^ 3 * c'.toNat) = lv (t0.take 4) + x.toNat * lv m /\
   zed N A n c top more x (j : Int) i a b z m t = zed N A (n' + 1) c' top more x 4 i a b z m t' := by
 intro k
 induction k with
 | zero =>
  intro n j c t h1 hj hn ht hv hp
  obtain ⟨n, rfl⟩ : ∃ m, n = m + 1 := ⟨n - 1, by omega⟩
  obtain rfl : j = 4 := by omega
  rw [List.take_of_length_le (l := m) (by omega)] at hv
  exact ⟨c, t, n, ht, hv, rfl⟩
 | succ k ih =>
  intro n j c t hj1 hj hn ht hv hp
  obtain ⟨n, rfl⟩ : ∃ m, n = m + 1 := ⟨n - 1, by omega⟩
  obtain ⟨j, rfl⟩ : ∃ p, j = p + 1 := ⟨j - 1, by omega⟩
  obtain ⟨hi', lo, h1, s1, k1, h2, s2, k2, h3, h4⟩ := mac N x (m.getD (j + 1) 0) (t.getD (j + 1) 0) c
  rw [zfH]
  unfold zff
  rw [zab (by omega), cond_true, zar (by omega), zmv (by omega)]
  simp only [zbb, zas, Int.toNat_natCast]
  rw [zaB (by omega), zaB (by omega), zaB (by omega)]
  simp only [Bool.and_self, mst, h1, h2, h3, Option.bind_some]
  refine ih n (j + 1 + 1) _ _ (by omega) (by omega) (by omega) (by rw [zau]; exact ht) ?_ ?_
  ·simp only [Nat.add_sub_cancel] at hv ⊢
   rw [zaL _ _ (by omega), zam t0, zam m, ← hp (j + 1) (by omega), Nat.pow_succ]
   generalize lv (List.take j t) = A1 at *
   generalize lv (List.take (j + 1) t0) = A2 at *
   generalize lv (List.take (j + 1) m) = A3 at *
   generalize (18446744073709551616 ^ j : Nat) = P at *
   generalize (m.getD (j + 1) 0).toNat = y at *
   generalize (t.getD (j + 1) 0).toNat = w at *
   generalize (hi' + k1 + k2).toNat = c1 at *
   generalize s2.toNat = s at *
   generalize c.toNat = c0 at *
   generalize x.toNat = x0 at *
   have e : P * s + P * 18446744073709551616 * c1 = P * (x0 * y + w + c0) := by rw [← h4]; grind
   grind
  ·intro p h
   rw [zaG, if_neg (by omega)]
   exact hp p (by omega)
end
section
def mL : List UInt64 := [18446744069414584321, 6034159408538082302, 3691218898639771653, 8353516859464449352]
theorem zhg : lv mL = RR := by decide +kernel
theorem zsl (N : Nat) (over : UInt64) (a z : List UInt64) (ha : a.length = 4) : ∀ (k n j : Nat) (c : UInt64) (t : List UInt64), j + k = 4 -> k < n -> t.length = 4 -> c.toNat <= 1 ->
  lv (t.take j) + lv (mL.take j) = lv (a.take j) + 18446744073709551616 ^ j * c.toNat ->
  ∃ (c' : UInt64) (t' : List UInt64) (n' : Nat), t'.length = 4 /\ c'.toNat <= 1 /\ lv t' + RR = lv a + 18446744073709551616 ^ 4 * c'.toNat /\ zfG N n over c (j : Int) a z mL t = zfG N (n' + 1) over c' 4 a z mL t' := by
 intro k
 induction k with
 | zero =>
  intro n j c t hj hn ht hc hv
  obtain ⟨n, rfl⟩ : ∃ m, n = m + 1 := ⟨n - 1, by omega⟩
  obtain rfl : j = 4 := by omega
  rw [List.take_of_length_le (l := t) (by omega), List.take_of_length_le (l := a) (by omega), show mL.take 4 = mL from rfl, zhg] at hv
  exact ⟨c, t, n, ht, hc, hv, rfl⟩
 | succ k ih =>
  intro n j c t hj hn ht hc hv
  obtain ⟨n, rfl⟩ : ∃ m, n = m + 1 := ⟨n - 1, by omega⟩
  obtain ⟨s, d, h1, h2, h3⟩ := zjG (x := a.getD j 0) (y := mL.getD j 0) hc
  rw [zg5]
  unfold zij
  rw [zab (by omega), cond_true, zar (by omega)]
  simp only [zbb, zas, Int.toNat_natCast]
  rw [zaB (by omega)]
  simp only [Bool.and_self, mst, h1, Option.bind_some]
  refine ih n (j + 1) _ _ (by omega) (by omega) (by rw [zau]; exact ht) h2 ?_
  rw [zaL _ _ (by omega), zam mL, zam a, Nat.pow_succ]
  generalize lv (List.take j t) = A1 at *
  generalize lv (List.take j mL) = A2 at *
  generalize lv (List.take j a) = A3 at *
  generalize (18446744073709551616 ^ j : Nat) = P at *
  generalize (mL.getD j 0).toNat = y at *
  generalize (a.getD j 0).toNat = x at *
  generalize d.toNat = d0 at *
  generalize s.toNat = s at *
  generalize c.toNat = c0 at *
  have e : P * s + P * y + P * c0 = P * x + P * 18446744073709551616 * d0 := by
   have : P * (s + y + c0) = P * (x + 18446744073709551616 * d0) := by rw [h3]
   grind
  grind
theorem zsm {N : Nat} (hN : 10 < N) (a : Fr) (over : UInt64) (ho : over.toNat <= 1) (hb : fv a + 18446744073709551616 ^ 4 * over.toNat < RR + 18446744073709551616 ^ 4) :
  ∃ r, q174 N a over = some (r, ()) /\ fv r = if fv a + 18446744073709551616 ^ 4 * over.toNat < RR then fv a + 18446744073709551616 ^ 4 * over.toNat else fv a + 18446744073709551616 ^ 4 * over.toNat - RR := by
 obtain ⟨c', t', n', h1, h2, h3, h4⟩ := zsl N over a.l [0, 0, 0, 0] rfl 4 N 0 0 [0, 0, 0, 0] rfl (by omega) rfl (by decide) (by simp [lv])
 have hq : q174 N a over = zfG N N over 0 ((0 : Nat) : Int) a.l [0, 0, 0, 0] mL [0, 0, 0, 0] := rfl
 rw [hq, h4, zg5]
 unfold zij
 rw [zaa (by omega), cond_false]
 obtain ⟨r, hr1, hr2⟩ := of4 h1
 have hal : a.l.length = 4 := rfl
 have hRR : RR < 18446744073709551616 ^ 4 := by decide
 have hfv : fv r = lv t' := by rw [fv, hr2]
 have htl := zhM t'
 rw [h1] at htl
 by_cases hc : over.toNat < c'.toNat
 ·rw [zaB hc, cond_true, hal, show Nat.beq 4 4 = true from rfl, mst, show Fr.of? a.l = some a from rfl]
  refine ⟨a, rfl, ?_⟩
  have h0 : over.toNat = 0 := by omega
  have h11 : c'.toNat = 1 := by omega
  rw [h11] at h3
  rw [h0, if_pos (by unfold fv; omega)]
  omega
 ·rw [zcC hc, cond_false, h1, show Nat.beq 4 4 = true from rfl, mst, hr1]
  refine ⟨r, rfl, ?_⟩
  unfold fv at hb ⊢
  unfold fv at hfv
  rw [hfv]
  rcases (by omega : c'.toNat = 0 \/ c'.toNat = 1) with e | e <;> rcases (by omega : over.toNat = 0 \/ over.toNat = 1) with e2 | e2 <;> rw [e] at h3 <;> rw [e2] at hb ⊢ <;> first | omega | (rw [if_neg (by omega)]; omega)
theorem zsn {t : List UInt64} (h : t.length = 5) : lv t = lv (t.take 4) + 18446744073709551616 ^ 4 * (t.getD 4 0).toNat := by
 have e := zam t 4
 rw [List.take_of_length_le (by omega)] at e
 exact e
theorem zso (x : UInt64) : (x * 18446744069414584319).toNat * 18446744069414584321 % 18446744073709551616 = (18446744073709551616 - x.toNat) % 18446744073709551616 := by
 have hx := x.toNat_lt
 rw [UInt64.toNat_mul, show UInt64.toNat 18446744069414584319 = 18446744069414584319 from rfl, Nat.mod_mul_mod, Nat.mul_assoc]
 omega
theorem zmy {N : Nat} (hN : 10 < N) (a b z t : List UInt64) (i : Nat) (hi : i < 4) (ha : a.length = 4) (hb : b.length = 4) (ht : t.length = 5) (hlt : lv t < lv a + RR) (n : Nat) :
  ∃ t' x, t'.length = 5 /\ 18446744073709551616 * lv t' = lv t + lv a * (b.getD i 0).toNat + x * RR /\ x < 18446744073709551616 /\ zdh N (n + 1) (i : Int) a b z mL t = zdh N n ((i + 1 : Nat) : Int) a b z mL t' := by
 have hal := zhM a
 rw [ha] at hal
 have hRR : RR < 18446744073709551616 ^ 4 := by decide
 have htt := zsn ht
 have ht4 : (t.getD 4 0).toNat <= 1 := by omega
 obtain ⟨c1, t1, n1, g1, g2, g3, g4⟩ := zsk N (zdh N n) a b z mL t i hi ha 4 N 0 0 t rfl (by omega) ht (by simp [lv]) (fun _ _ => rfl)
 obtain ⟨top, more, f1, f2, f3⟩ := zoI (t1.getD 4 0) c1
 obtain ⟨hi0, lo0, e1, e2⟩ := zjH N (t1.getD 0 0 * 18446744069414584319) 18446744069414584321
 obtain ⟨s0, k0, d1, d2, d3⟩ := zoI lo0 (t1.getD 0 0)
 have hs0 : s0.toNat = 0 := by
  have hl := zso (t1.getD 0 0)
  have := (t1.getD 0 0).toNat_lt
  have := lo0.toNat_lt
  have := s0.toNat_lt
  rw [show UInt64.toNat 18446744069414584321 = 18446744069414584321 from rfl] at e2
  rw [← e2] at hl
  omega
 have hc : (hi0 + k0).toNat = hi0.toNat + k0.toNat := by
  have := hi0.toNat_lt
  have hx : (t1.getD 0 0 * 18446744069414584319).toNat * UInt64.toNat 18446744069414584321 <= 18446744073709551615 * 18446744069414584321 := Nat.mul_le_mul (by have := (t1.getD 0 0 * 18446744069414584319).toNat_lt; omega) (Nat.le_refl _)
  rw [UInt64.toNat_add]
  omega
 have hv2 : 18446744073709551616 * (lv (t1.take (1 - 1)) + 18446744073709551616 ^ (1 - 1) * (hi0 + k0).toNat) = lv (t1.take 1) + (t1.getD 0 0 * 18446744069414584319).toNat * lv (mL.take 1) := by
  have e5 : lv (t1.take 1) = (t1.getD 0 0).toNat := by rw [zam]; simp [lv]
  have e6 : lv (mL.take 1) = 18446744069414584321 := by decide +kernel
  rw [e5, e6, hc]
  rw [show UInt64.toNat 18446744069414584321 = 18446744069414584321 from rfl] at e2
  simp only [Nat.sub_self, List.take_zero, lv, Nat.pow_zero]
  omega
 obtain ⟨c2, t2, n2, p1, p2, p3⟩ := zoJ N (zdh N n) a b z mL t1 i top more (t1.getD 0 0 * 18446744069414584319) rfl 3 N 1 (hi0 + k0) t1 (Nat.le_refl _) rfl (by omega) g1 hv2 (fun _ _ => rfl)
 obtain ⟨t3, k3, r1, r2, r3⟩ := zoI top c2
 refine ⟨setL (setL t2 3 t3) 4 (more + k3), (t1.getD 0 0 * 18446744069414584319).toNat, by rw [zau, zau]; exact p1, ?_, (t1.getD 0 0 * 18446744069414584319).toNat_lt, ?_⟩
 ·have hm : (more + k3).toNat = more.toNat + k3.toNat := by rw [UInt64.toNat_add]; omega
  have hL : lv (setL (setL t2 3 t3) 4 (more + k3)) = lv (t2.take 3) + 18446744073709551616 ^ 3 * t3.toNat + 18446744073709551616 ^ 4 * (more.toNat + k3.toNat) := by
   rw [zsn (by rw [zau, zau]; exact p1), zdv _ _ (Nat.le_refl _), zaG, if_pos ⟨rfl, by rw [zau]; omega⟩, zaL _ _ (by omega), hm]
  rw [hL, htt]
  rw [zhg] at p2
  rw [g3] at f3
  generalize lv (List.take 3 t2) = A1 at *
  generalize lv (List.take 4 t1) = A2 at *
  generalize lv (List.take 4 t) = A3 at *
  generalize (t1.getD 0 0 * 18446744069414584319).toNat * RR = X at *
  generalize lv a * (b.getD i 0).toNat = Y at *
  omega
 ·rw [zg8]
  unfold zil
  rw [zab (by omega), cond_true]
  refine g4.trans ?_
  rw [zg7]
  unfold zik
  rw [zaa (by omega), cond_false, f1]
  simp only [Option.bind_some]
  rw [show List.getD mL 0 0 = 18446744069414584321 from rfl, e1]
  simp only [Option.bind_some]
  rw [d1]
  simp only [Option.bind_some]
  refine p3.trans ?_
  rw [zfH]
  unfold zff
  rw [zaa (by omega), cond_false, r1]
  simp only [Option.bind_some]
  rw [zar (by omega)]
theorem znL {x y T q r : Nat} (h : 18446744073709551616 ^ 4 * T = x * y + q * RR) (hr : r = T \/ r + RR = T) (hlt : r < RR) : r = x * y * Binv % RR := by
 have e1 : 18446744073709551616 ^ 4 * r % RR = x * y % RR := by
  rcases hr with rfl | hr
  ·rw [h, Nat.add_mul_mod_self_right]
  ·have : 18446744073709551616 ^ 4 * r + 18446744073709551616 ^ 4 * RR = x * y + q * RR := by rw [← h, ← hr, Nat.mul_add]
   have h2 := congrArg (· % RR) this
   simp only [Nat.add_mul_mod_self_right] at h2
   exact h2
 have e2 : r * (18446744073709551616 ^ 4 * Binv) % RR = r := by
  rw [Nat.mul_mod, zmx, Nat.mul_one, Nat.mod_mod, Nat.mod_eq_of_lt hlt]
 rw [← e2, ← Nat.mul_assoc, Nat.mul_comm r, Nat.mul_mod, e1, ← Nat.mul_mod]
theorem zsp {N : Nat} (hN : 10 < N) {a b : Fr} (ha : fv a < RR) : ∃ r, q172 N a b = some (r, ()) /\ fv r = fv a * fv b * Binv % RR := by
 have hRR : RR < 18446744073709551616 ^ 4 := by decide
 have hR0 : 0 < RR := by decide
 have hlen : b.l.length = 4 := rfl
 have loop : ∀ (k n i : Nat) (t : List UInt64) (q : Nat), i + k = 4 -> k < n -> t.length = 5 -> lv t < lv a.l + RR -> 18446744073709551616 ^ i * lv t = lv a.l * lv (b.l.take i) + q * RR ->
   ∃ (t' : List UInt64) (q' n' : Nat), t'.length = 5 /\ lv t' < lv a.l + RR /\ 18446744073709551616 ^ 4 * lv t' = lv a.l * lv b.l + q' * RR /\ zdh N n (i : Int) a.l b.l [0, 0, 0, 0] mL t = zdh N (n' + 1) 4 a.l b.l [0, 0, 0, 0] mL t' := by
  intro k
  induction k with
  | zero =>
   intro n i t q hi hn ht hl hv
   obtain ⟨n, rfl⟩ : ∃ m, n = m + 1 := ⟨n - 1, by omega⟩
   obtain rfl : i = 4 := by omega
   exact ⟨t, q, n, ht, hl, hv, rfl⟩
  | succ k ih =>
   intro n i t q hi hn ht hl hv
   obtain ⟨n, rfl⟩ : ∃ m, n = m + 1 := ⟨n - 1, by omega⟩
   obtain ⟨t', x, h1, h2, h3, h4⟩ := zmy hN a.l b.l [0, 0, 0, 0] t i (by omega) rfl rfl ht hl n
   have hb : (b.l.getD i 0).toNat <= 18446744073709551615 := by have := (b.l.getD i 0).toNat_lt; omega
   have h5 : lv a.l * (b.l.getD i 0).toNat <= lv a.l * 18446744073709551615 := Nat.mul_le_mul_left _ hb
   have h6 : x * RR <= 18446744073709551615 * RR := Nat.mul_le_mul_right _ (by omega)
   rw [h4]
   exact ih n (i + 1) t' (q + 18446744073709551616 ^ i * x) (by omega) (by omega) h1 (by omega) (by
    rw [Nat.pow_succ, Nat.mul_assoc, h2, zam]
    generalize lv (List.take i b.l) = A1 at *
    generalize lv a.l = A2 at *
    generalize lv t = A3 at *
    generalize (b.l.getD i 0).toNat = y at *
    generalize (18446744073709551616 ^ i : Nat) = P at *
    grind)
 obtain ⟨t', q', n', h1, h2, h3, h4⟩ := loop 4 N 0 [0, 0, 0, 0, 0] 0 rfl (by omega) rfl (by simp [lv]; omega) (by simp [lv])
 have hq : q172 N a b = zdh N N ((0 : Nat) : Int) a.l b.l [0, 0, 0, 0] mL [0, 0, 0, 0, 0] := rfl
 rw [hq, h4, zg8]
 unfold zil
 obtain ⟨x, hx1, hx2⟩ := of4 (l := t'.take 4) (by rw [List.length_take]; omega)
 have htt := zsn h1
 have hfx : fv x = lv (t'.take 4) := by rw [fv, hx2]
 have hal : lv a.l = fv a := rfl
 obtain ⟨r, hr1, hr2⟩ := zsm hN x (t'.getD 4 0) (by omega) (by omega)
 rw [zaa (by omega), cond_false, h1, zaE (by decide), mst, hx1]
 simp only [Option.bind_some]
 rw [hr1]
 refine ⟨r, rfl, ?_⟩
 have e3 : fv x + 18446744073709551616 ^ 4 * (t'.getD 4 0).toNat = lv t' := by rw [hfx, htt]
 rw [e3] at hr2
 refine znL h3 ?_ ?_
 ·split at hr2 <;> omega
 ·split at hr2 <;> omega
theorem zsq : lv [14526898881837571181, 3129137299524312099, 419701826671360399, 524908885293268753] * Binv % RR = 18446744073709551616 ^ 4 % RR := by decide +kernel
theorem zyN {N : Nat} (hN : 10 < N) {a : Fr} (ha : fv a < RR) : ∃ r, q170 N a = some (r, ()) /\ fv r = fv a * 18446744073709551616 ^ 4 % RR := by
 obtain ⟨r, h1, h2⟩ := zsp hN (b := ⟨14526898881837571181, 3129137299524312099, 419701826671360399, 524908885293268753⟩) ha
 refine ⟨r, ?_, ?_⟩
 ·unfold q170
  rw [show q213 N = some ((⟨14526898881837571181, 3129137299524312099, 419701826671360399, 524908885293268753⟩ : Fr), ()) from rfl]
  simp only [Option.bind_some]
  rw [h1]
  rfl
 ·rw [h2, Nat.mul_assoc, show fv ⟨14526898881837571181, 3129137299524312099, 419701826671360399, 524908885293268753⟩ = lv [14526898881837571181, 3129137299524312099, 419701826671360399, 524908885293268753] from rfl, ← Nat.mul_mod_mod, zsq, Nat.mul_mod_mod]
theorem zdw (x : Nat) : x % RR < RR := Nat.mod_lt _ (by decide)
theorem zBX {N : Nat} (hN : 10 < N) {a b : Fr} (ha : fv a < RR) : ∃ r, q76 N a b = some (r, ()) /\ fv r = fv a * fv b % RR := by
 obtain ⟨r, h1, h2⟩ := zsp hN (b := b) ha
 obtain ⟨s, h3, h4⟩ := zyN hN (a := r) (by rw [h2]; exact zdw _)
 refine ⟨s, ?_, ?_⟩
 ·unfold q76
  rw [h1]
  simp only [Option.bind_some]
  rw [h3]
  rfl
 ·rw [h4, h2, Nat.mod_mul_mod, Nat.mul_assoc, Nat.mul_comm Binv, ← Nat.mul_mod_mod, zmx, Nat.mul_one]
end
section
theorem mst2 {R : Type} {x : Option R} : must true x = x := by rw [mst]
theorem bsm {α β : Type} {a : α} {f : α -> Option β} : Option.bind (some a) f = f a := by rw [Option.bind_some]
theorem zoK (a m : List UInt64) (k : Nat) : lv (a.take (k + 1)) < lv (m.take (k + 1)) ↔ ((a.getD k 0).toNat < (m.getD k 0).toNat \/ ((a.getD k 0).toNat = (m.getD k 0).toNat /\ lv (a.take k) < lv (m.take k))) := by
 have h1 := zb7 a k
 have h2 := zb7 m k
 rw [zam, zam]
 generalize lv (a.take k) = A at *
 generalize lv (m.take k) = M at *
 generalize (18446744073709551616 ^ k : Nat) = P at *
 generalize (a.getD k 0).toNat = x
 generalize (m.getD k 0).toNat = y
 rcases Nat.lt_trichotomy x y with h | h | h
 ·have h3 : P * (x + 1) <= P * y := Nat.mul_le_mul_left _ h
  rw [Nat.mul_add, Nat.mul_one] at h3
  exact ⟨fun _ => .inl h, fun _ => by omega⟩
 ·subst h
  constructor
  ·intro h; exact .inr ⟨rfl, by omega⟩
  ·rintro (h | ⟨_, h⟩) <;> omega
 ·have h3 : P * (y + 1) <= P * x := Nat.mul_le_mul_left _ h
  rw [Nat.mul_add, Nat.mul_one] at h3
  constructor
  ·intro h; omega
  ·rintro (h | ⟨h, _⟩) <;> omega
theorem zyO (N : Nat) (a m : List UInt64) (hm : m.length < 1000000) (ha : m.length <= a.length) : ∀ (k n : Nat), k <= m.length -> k < n -> ziq N n a m ((k : Int) - 1) = some (decide (lv (a.take k) < lv (m.take k)), ()) := by
 intro k
 induction k with
 | zero =>
  intro n hk hn
  obtain ⟨n, rfl⟩ : ∃ m, n = m + 1 := ⟨n - 1, by omega⟩
  rw [zha]
  unfold zip
  rw [zaF (by omega), cond_false]
  simp [lv]
 | succ k ih =>
  intro n hk hn
  obtain ⟨n, rfl⟩ : ∃ m, n = m + 1 := ⟨n - 1, by omega⟩
  rw [zha]
  unfold zip
  rw [show ((k + 1 : Nat) : Int) - 1 = (k : Int) by omega, zas, cond_true, zab (show (k : Int) < (a.length : Int) by omega), zab (show (k : Int) < (m.length : Int) by omega)]
  simp only [Bool.and_self, mst, Int.toNat_natCast]
  rw [zec (by omega) (by omega), ih n (by omega) (by omega)]
  have e := zoK a m k
  by_cases h : a.getD k 0 = m.getD k 0
  ·rw [h]
   simp only [beq_self_eq_true, Bool.not_true, cond_false]
   rw [h] at e
   congr 2
   rw [Bool.eq_iff_iff, decide_eq_true_iff, decide_eq_true_iff, e]
   constructor
   ·intro h; exact .inr ⟨rfl, h⟩
   ·rintro (h | ⟨_, h⟩)
    ·omega
    ·exact h
  ·rw [beq_eq_false_iff_ne.2 h]
   simp only [Bool.not_false, cond_true]
   have hne : (a.getD k 0).toNat ≠ (m.getD k 0).toNat := fun h2 => h (UInt64.toNat_inj.1 h2)
   congr 2
   rw [Bool.eq_iff_iff, decide_eq_true_iff, e]
   simp only [ltN, decide_eq_true_iff]
   constructor
   ·intro h; exact .inl h
   ·rintro (h | ⟨h, _⟩)
    ·exact h
    ·exact absurd h hne
theorem zmz {N : Nat} {a m : List UInt64} (hm : m.length < 1000000) (ha : m.length = a.length) (hN : m.length < N) : q168 N a m = some (decide (lv a < lv m), ()) := by
 unfold q168
 rw [zec (by omega) (by omega), zyO N a m hm (by omega) m.length N (Nat.le_refl _) hN, List.take_of_length_le (by omega), List.take_of_length_le (by omega)]
theorem zyP (N : Nat) (m : List UInt64) (tn : Nat) (hm : m.length <= tn) (hb : tn < 1000000) (t0 : List UInt64) : ∀ (k n j : Nat) (c : UInt64) (t : List UInt64), j + k = m.length -> k < n -> t.length = tn -> c.toNat <= 1 -> (∀ p, j <= p -> t.getD p 0 = t0.getD p 0) ->
  lv (t.take j) + lv (m.take j) = lv (t0.take j) + 18446744073709551616 ^ j * c.toNat ->
  ∃ (c' : UInt64) (t' : List UInt64), t'.length = tn /\ c'.toNat <= 1 /\ lv (t'.take m.length) + lv m = lv (t0.take m.length) + 18446744073709551616 ^ m.length * c'.toNat /\ zis N n 0 tn m c (j : Int) t = some (t', ()) := by
 intro k
 induction k with
 | zero =>
  intro n j c t hj hn ht hc hp hv
  obtain ⟨n, rfl⟩ : ∃ m, n = m + 1 := ⟨n - 1, by omega⟩
  obtain rfl : j = m.length := by omega
  rw [List.take_of_length_le (l := m) (by omega)] at hv
  refine ⟨c, t, ht, hc, hv, ?_⟩
  rw [zhb]
  unfold zir
  rw [zaa (by omega), cond_false]
 | succ k ih =>
  intro n j c t hj hn ht hc hp hv
  obtain ⟨n, rfl⟩ : ∃ m, n = m + 1 := ⟨n - 1, by omega⟩
  obtain ⟨s, d, h1, h2, h3⟩ := zjG (x := t.getD j 0) (y := m.getD j 0) hc
  rw [zhb]
  unfold zir
  rw [zar (by omega)]
  simp only [zbb, zas, Int.toNat_natCast, Nat.zero_add]
  rw [zaB (show j < m.length by omega), zaB (show j < tn by omega), cond_true]
  simp only [Bool.and_self, mst, h1, Option.bind_some]
  refine ih n (j + 1) _ _ (by omega) (by omega) (by rw [zau]; exact ht) h2 ?_ ?_
  ·intro p h
   rw [zaG, if_neg (by omega)]
   exact hp p (by omega)
  ·rw [zaL _ _ (by omega), zam m, zam t0, ← hp j (Nat.le_refl _), Nat.pow_succ]
   generalize lv (List.take j t) = A1 at *
   generalize lv (List.take j m) = A2 at *
   generalize lv (List.take j t0) = A3 at *
   generalize (18446744073709551616 ^ j : Nat) = P at *
   generalize (m.getD j 0).toNat = y at *
   generalize (t.getD j 0).toNat = x at *
   generalize d.toNat = d0 at *
   generalize s.toNat = s at *
   generalize c.toNat = c0 at *
   have e : P * s + P * y + P * c0 = P * x + P * 18446744073709551616 * d0 := by
    have : P * (s + y + c0) = P * (x + 18446744073709551616 * d0) := by rw [h3]
    grind
   grind
theorem zsr {N : Nat} {t m : List UInt64} (hm : m.length <= t.length) (hb : t.length < 1000000) (hN : m.length < N) :
  ∃ (c' : UInt64) (t' : List UInt64), t'.length = t.length /\ c'.toNat <= 1 /\ lv (t'.take m.length) + lv m = lv (t.take m.length) + 18446744073709551616 ^ m.length * c'.toNat /\ q214 N t m = some (t', ()) :=
 zyP N m t.length hm hb t m.length N 0 0 t (by omega) hN rfl (by decide) (fun _ _ => rfl) (by simp [lv])
theorem alg1 (B A1 A2 A3 P x y w c0 c1 s : Nat) (hv : A1 + P * c0 = A2 + x * A3) (h4 : s + B * c1 = x * y + w + c0) : A1 + P * s + P * B * c1 = A2 + P * w + x * (A3 + P * y) := by
 have e : P * s + P * B * c1 = P * (x * y + w + c0) := by rw [← h4]; grind
 grind
theorem alg2 (B A1 A2 A3 P x y w c0 c1 s : Nat) (hv : B * (A1 + P * c0) = A2 + x * A3) (h4 : s + B * c1 = x * y + w + c0) : B * (A1 + P * s + P * B * c1) = A2 + P * B * w + x * (A3 + P * B * y) := by
 have e : P * s + P * B * c1 = P * (x * y + w + c0) := by rw [← h4]; grind
 grind
theorem zoL (N : Nat) (A : List UInt64 -> List UInt64 -> List UInt64 -> Int -> UInt64 -> Int -> List UInt64 -> Option (List UInt64 × Unit)) (a b m t0 : List UInt64) (iv : UInt64) (i : Nat) (hi : i < 4) (ha : a.length = 4) (hb : b.length = 4) : ∀ (k n j : Nat) (c : UInt64) (t : List UInt64), j + k = 4 -> k < n -> t.length = 6 ->
  lv (t.take j) + 18446744073709551616 ^ j * c.toNat = lv (t0.take j) + (a.getD i 0).toNat * lv (b.take j) -> (∀ p, j <= p -> t.getD p 0 = t0.getD p 0) ->
  ∃ (c' : UInt64) (t' : List UInt64) (n' : Nat), t'.length = 6 /\ lv (t'.take 4) + 18446744073709551616 ^ 4 * c'.toNat = lv (t0.take 4) + (a.getD i 0).toNat * lv b /\ t'.getD 4 0 = t0.getD 4 0 /\
   zeg N A n a b m 4 iv (i : Int) c (j : Int) t = zeg N A (n' + 1) a b m 4 iv (i : Int) c' 4 t' := by
 intro k
 induction k with
 | zero =>
  intro n j c t hj hn ht hv hp
  obtain ⟨n, rfl⟩ : ∃ m, n = m + 1 := ⟨n - 1, by omega⟩
  obtain rfl : j = 4 := by omega
  rw [List.take_of_length_le (l := b) (by omega)] at hv
  exact ⟨c, t, n, ht, hv, hp 4 (Nat.le_refl _), rfl⟩
 | succ k ih =>
  intro n j c t hj hn ht hv hp
  obtain ⟨n, rfl⟩ : ∃ m, n = m + 1 := ⟨n - 1, by omega⟩
  obtain ⟨hi', lo, h1, s1, k1, h2, s2, k2, h3, h4⟩ := mac' N (a.getD i 0) (b.getD j 0) (t.getD j 0) c
  rw [zfJ]
  unfold zef
  rw [zab (show (j : Int) < 4 by omega), cond_true, zar (by omega)]
  simp only [zbb, zas, Int.toNat_natCast]
  rw [zaB (show i < a.length by omega), zaB (show j < b.length by omega), zaB (show j < t.length by omega)]
  simp only [Bool.and_self, mst2, h1, h2, h3, bsm]
  refine ih n (j + 1) _ _ (by omega) (by omega) (by rw [zau]; exact ht) ?_ ?_
  ·rw [zaL _ _ (by omega), zam t0, zam b, ← hp j (Nat.le_refl _), Nat.pow_succ]
   exact alg1 _ _ _ _ _ _ _ _ _ _ _ hv h4
  ·intro p h
   rw [zaG, if_neg (by omega)]
   exact hp p (by omega)
theorem zoM (N : Nat) (A : List UInt64 -> List UInt64 -> List UInt64 -> Int -> UInt64 -> Int -> List UInt64 -> Option (List UInt64 × Unit)) (a b m t0 : List UInt64) (iv x : UInt64) (i : Int) (hm : m.length = 4) : ∀ (k n j : Nat) (c : UInt64) (t : List UInt64), 1 <= j -> j + k = 4 -> k < n -> t.length = 6 ->
  18446744073709551616 * (lv (t.take (j - 1)) + 18446744073709551616 ^ (j - 1) * c.toNat) = lv (t0.take j) + x.toNat * lv (m.take j) -> (∀ p, j - 1 <= p -> t.getD p 0 = t0.getD p 0) ->
  ∃ (c' : UInt64) (t' : List UInt64) (n' : Nat), t'.length = 6 /\ 18446744073709551616 * (lv (t'.take 3) + 18446744073709551616 ^ 3 * c'.toNat) = lv (t0.take 4) + x.toNat * lv m /\ t'.getD 4 0 = t0.getD 4 0 /\ t'.getD 5 0 = t0.getD 5 0 /\
   zdu N A n a b m 4 iv i c x (j : Int) t = zdu N A (n' + 1) a b m 4 iv i c' x 4 t' := by
 intro k
 induction k with
 | zero =>
  intro n j c t h1 hj hn ht hv hp
  obtain ⟨n, rfl⟩ : ∃ m, n = m + 1 := ⟨n - 1, by omega⟩
  obtain rfl : j = 4 := by omega
  rw [List.take_of_length_le (l := m) (by omega)] at hv
  exact ⟨c, t, n, ht, hv, hp 4 (by omega), hp 5 (by omega), rfl⟩
 | succ k ih =>
  intro n j c t hj1 hj hn ht hv hp
  obtain ⟨n, rfl⟩ : ∃ m, n = m + 1 := ⟨n - 1, by omega⟩
  obtain ⟨j, rfl⟩ : ∃ p, j = p + 1 := ⟨j - 1, by omega⟩
  obtain ⟨hi', lo, h1, s1, k1, h2, s2, k2, h3, h4⟩ := mac' N x (m.getD (j + 1) 0) (t.getD (j + 1) 0) c
  rw [zfI]
  unfold zee
  rw [zab (show ((j + 1 : Nat) : Int) < 4 by omega), cond_true, zar (by omega), zmv (by omega)]
  simp only [zbb, zas, Int.toNat_natCast]
  rw [zaB (show j + 1 < m.length by omega), zaB (show j + 1 < t.length by omega), zaB (show j < t.length by omega)]
  simp only [Bool.and_self, mst2, h1, h2, h3, bsm]
  refine ih n (j + 1 + 1) _ _ (by omega) (by omega) (by omega) (by rw [zau]; exact ht) ?_ ?_
  ·simp only [Nat.add_sub_cancel] at hv ⊢
   rw [zaL _ _ (by omega), zam t0, zam m, ← hp (j + 1) (by omega), Nat.pow_succ]
   exact alg2 _ _ _ _ _ _ _ _ _ _ _ hv h4
  ·intro p h
   rw [zaG, if_neg (by omega)]
   exact hp p (by omega)
end
section
theorem zmA {t : List UInt64} (h : t.length = 6) : lv (t.take 5) = lv (t.take 4) + 18446744073709551616 ^ 4 * (t.getD 4 0).toNat := zam t 4
theorem e45 : wr (4 + 1) = ((5 : Nat) : Int) := by decide +kernel
theorem e43 : wr (4 - 1) = ((3 : Nat) : Int) := by decide +kernel
theorem i4 : (4 : Int) = ((4 : Nat) : Int) := rfl
theorem zmB (N : Nat) (A : List UInt64 -> List UInt64 -> List UInt64 -> Int -> UInt64 -> Int -> List UInt64 -> Option (List UInt64 × Unit)) (A14 : List UInt64 -> List UInt64 -> List UInt64 -> Int -> UInt64 -> Int -> UInt64 -> Int -> List UInt64 -> Option (List UInt64 × Unit)) (a b : List UInt64) (i : Int) (c iv : UInt64) (t : List UInt64) (ht : t.length = 6)
  {top x hi0 lo0 s0 k0 : UInt64} (h1 : kAdd (t.getD 4 0) c 0 = some (top, x)) (h2 : q163 N (t.getD 0 0 * iv) 18446744069414584321 = some (hi0, lo0, ())) (h3 : kAdd (t.getD 0 0) lo0 0 = some (s0, k0)) :
  zef N A A14 a b mL 4 iv i c 4 t = zdu N A N a b mL 4 iv i (hi0 + k0) (t.getD 0 0 * iv) 1 (setL (setL t 4 top) 5 x) := by
 unfold zef
 rw [zaa (by omega), cond_false, ht, e45, i4]
 simp only [zas, zbb, Int.toNat_natCast, zau, ht]
 rw [zaB (by omega), zaB (by omega)]
 simp only [Bool.and_self, mst2, h1, bsm]
 rw [zab (show (0 : Int) < ((6 : Nat) : Int) by omega), show List.length mL = 4 from rfl, zab (show (0 : Int) < ((4 : Nat) : Int) by omega)]
 have e0 : List.getD (setL (setL t 4 top) 5 x) 0 0 = t.getD 0 0 := by
  rw [zaG, if_neg (by omega), zaG, if_neg (by omega)]
 rw [e0, show List.getD mL 0 0 = 18446744069414584321 from rfl]
 simp only [mst2, h2, h3, bsm]
theorem zmC (N : Nat) (A : List UInt64 -> List UInt64 -> List UInt64 -> Int -> UInt64 -> Int -> List UInt64 -> Option (List UInt64 × Unit)) (A27 : List UInt64 -> List UInt64 -> List UInt64 -> Int -> UInt64 -> Int -> UInt64 -> UInt64 -> Int -> List UInt64 -> Option (List UInt64 × Unit)) (a b : List UInt64) (i : Nat) (hi : i < 100) (c iv x : UInt64) (t : List UInt64) (ht : t.length = 6)
  {s k : UInt64} (h1 : kAdd (t.getD 4 0) c 0 = some (s, k)) :
  zee N A A27 a b mL 4 iv (i : Int) c x 4 t = A a b mL 4 iv ((i + 1 : Nat) : Int) (setL (setL t 3 s) 4 (t.getD 5 0 + k)) := by
 unfold zee
 rw [zaa (by omega), cond_false, ht, e45, e43, i4, zar (by omega)]
 simp only [zas, zbb, Int.toNat_natCast, zau, ht]
 rw [zaB (by omega), zaB (by omega), zaB (by omega)]
 simp only [Bool.and_self, mst2, h1, bsm]
theorem zkI {N : Nat} (hN : 10 < N) (a b t : List UInt64) (i : Nat) (hi : i < 4) (ha : a.length = 4) (hb : b.length = 4) (ht : t.length = 6) (hlt : lv (t.take 5) < lv b + RR) (n : Nat) :
  ∃ t' x, t'.length = 6 /\ 18446744073709551616 * lv (t'.take 5) = lv (t.take 5) + (a.getD i 0).toNat * lv b + x * RR /\ x < 18446744073709551616 /\
   zbo N (n + 1) a b mL 4 18446744069414584319 (i : Int) t = zbo N n a b mL 4 18446744069414584319 ((i + 1 : Nat) : Int) t' := by
 have hal := zhM b
 rw [hb] at hal
 have hRR : RR < 18446744073709551616 ^ 4 := by decide
 have htt := zmA ht
 have ht4 : (t.getD 4 0).toNat <= 1 := by omega
 obtain ⟨c1, t1, n1, g1, g2, g3, g4⟩ := zoL N (zbo N n) a b mL t 18446744069414584319 i hi ha hb 4 N 0 0 t rfl (by omega) ht (by simp [lv]) (fun _ _ => rfl)
 obtain ⟨top, more, f1, f2, f3⟩ := zoI (t1.getD 4 0) c1
 obtain ⟨hi0, lo0, e1, e2⟩ := zjH N (t1.getD 0 0 * 18446744069414584319) 18446744069414584321
 obtain ⟨s0, k0, d1, d2, d3⟩ := zoI (t1.getD 0 0) lo0
 have hs0 : s0.toNat = 0 := by
  have hl := zso (t1.getD 0 0)
  have := (t1.getD 0 0).toNat_lt
  have := lo0.toNat_lt
  have := s0.toNat_lt
  rw [show UInt64.toNat 18446744069414584321 = 18446744069414584321 from rfl] at e2
  rw [← e2] at hl
  omega
 have hc : (hi0 + k0).toNat = hi0.toNat + k0.toNat := by
  have := hi0.toNat_lt
  have hx : (t1.getD 0 0 * 18446744069414584319).toNat * UInt64.toNat 18446744069414584321 <= 18446744073709551615 * 18446744069414584321 := Nat.mul_le_mul (by have := (t1.getD 0 0 * 18446744069414584319).toNat_lt; omega) (Nat.le_refl _)
  rw [UInt64.toNat_add]
  omega
 have hst : (setL (setL t1 4 top) 5 more).length = 6 := by rw [zau, zau]; exact g1
 have hsT : ∀ j, j <= 4 -> List.take j (setL (setL t1 4 top) 5 more) = List.take j t1 := fun j hj => by rw [zdv _ _ (by omega), zdv _ _ hj]
 have hv2 : 18446744073709551616 * (lv (List.take (1 - 1) (setL (setL t1 4 top) 5 more)) + 18446744073709551616 ^ (1 - 1) * (hi0 + k0).toNat) = lv (List.take 1 (setL (setL t1 4 top) 5 more)) + (t1.getD 0 0 * 18446744069414584319).toNat * lv (mL.take 1) := by
  have e5 : lv (t1.take 1) = (t1.getD 0 0).toNat := by rw [zam]; simp [lv]
  have e6 : lv (mL.take 1) = 18446744069414584321 := by decide +kernel
  rw [hsT 1 (by omega), e5, e6, hc]
  rw [show UInt64.toNat 18446744069414584321 = 18446744069414584321 from rfl] at e2
  simp only [Nat.sub_self, List.take_zero, lv, Nat.pow_zero]
  omega
 obtain ⟨c2, t2, n2, p1, p2, p4, p5, p3⟩ := zoM N (zbo N n) a b mL (setL (setL t1 4 top) 5 more) 18446744069414584319 (t1.getD 0 0 * 18446744069414584319) (i : Int) rfl 3 N 1 (hi0 + k0) (setL (setL t1 4 top) 5 more) (Nat.le_refl _) rfl (by omega) hst hv2 (fun _ _ => rfl)
 rw [zaG, if_neg (by omega), zaG, if_pos ⟨rfl, by omega⟩] at p4
 rw [zaG, if_pos ⟨rfl, by rw [zau]; omega⟩] at p5
 obtain ⟨t3, k3, r1, r2, r3⟩ := zoI (t2.getD 4 0) c2
 rw [hsT 4 (Nat.le_refl _)] at p2
 refine ⟨setL (setL t2 3 t3) 4 (t2.getD 5 0 + k3), (t1.getD 0 0 * 18446744069414584319).toNat, by rw [zau, zau]; exact p1, ?_, (t1.getD 0 0 * 18446744069414584319).toNat_lt, ?_⟩
 ·have hm : (t2.getD 5 0 + k3).toNat = more.toNat + k3.toNat := by rw [p5, UInt64.toNat_add]; omega
  have hL : lv (List.take 5 (setL (setL t2 3 t3) 4 (t2.getD 5 0 + k3))) = lv (t2.take 3) + 18446744073709551616 ^ 3 * t3.toNat + 18446744073709551616 ^ 4 * (more.toNat + k3.toNat) := by
   rw [zmA (by rw [zau, zau]; exact p1), zdv _ _ (Nat.le_refl _), zaG, if_pos ⟨rfl, by rw [zau]; omega⟩, zaL _ _ (by omega), hm]
  rw [hL, htt]
  rw [zhg] at p2
  rw [g3] at f3
  rw [p4] at r3
  generalize lv (List.take 3 t2) = A1 at *
  generalize lv (List.take 4 t1) = A2 at *
  generalize lv (List.take 4 t) = A3 at *
  generalize (t1.getD 0 0 * 18446744069414584319).toNat * RR = X at *
  generalize (a.getD i 0).toNat * lv b = Y at *
  omega
 ·rw [zfK]
  unfold zfg
  rw [zab (show (i : Int) < 4 by omega), cond_true]
  refine g4.trans ?_
  rw [zfJ, zmB N _ _ a b (i : Int) c1 18446744069414584319 t1 g1 f1 e1 d1]
  refine p3.trans ?_
  rw [zfI, zmC N _ _ a b i (by omega) c2 _ _ t2 p1 r1]
theorem alg3 (P A1 A2 A3 y q x M : Nat) (hv : P * A3 = A1 * A2 + q * M) : P * (A3 + y * A2 + x * M) = (A1 + P * y) * A2 + (q + P * x) * M := by grind
theorem zmD {N : Nat} (hN : 10 < N) (a b t : List UInt64) (n : Nat) (ht : t.length = 6) (hb : lv (t.take 5) < RR + 18446744073709551616 ^ 4) :
  ∃ r, r.length = 4 /\ zbo N (n + 1) a b mL 4 18446744069414584319 4 t = some (r, ()) /\ lv r = if lv (t.take 5) < RR then lv (t.take 5) else lv (t.take 5) - RR := by
 have hRR : RR < 18446744073709551616 ^ 4 := by decide
 have htt := zmA ht
 have h4 := zb7 t 4
 obtain ⟨c', t', g1, g2, g3, g4⟩ := zsr (N := N) (t := t) (m := mL) (by rw [ht]; decide) (by omega) (by show 4 < N; omega)
 have hml : mL.length = 4 := rfl
 rw [hml, zhg] at g3
 rw [ht] at g1
 have hl4 := zb7 t' 4
 have e4 : Int.toNat (((4 : Nat) : Int) - 0) = 4 := by decide
 rw [zfK]
 unfold zfg
 rw [zaa (by omega), cond_false, ht, i4]
 have c1 : lv (t.take 5) < RR -> (t.getD 4 0).toNat = 0 := fun h => by omega
 simp only [zas, zbb, zqe, Int.toNat_natCast, e4]
 rw [zaB (show 4 < 6 by omega), zaE (show 4 <= 6 by omega), zaB (show 0 < 6 by omega), zaB (show 0 < 4 by omega)]
 simp only [Bool.and_self, mst2, g4, bsm, g1]
 rw [zaE (show 4 <= 6 by omega), show Nat.beq 6 6 = true from rfl]
 simp only [mst2]
 by_cases hz : t.getD 4 0 = 0
 ·rw [hz]
  have hz' : (t.getD 4 0).toNat = 0 := by rw [hz]; rfl
  simp only [beq_self_eq_true, Bool.not_true, cond_false]
  rw [zmz (N := N) (a := t.take 4) (m := mL) (by decide) (by rw [List.length_take]; omega) (by show 4 < N; omega), zhg]
  simp only [bsm]
  by_cases h : lv (t.take 4) < RR
  ·rw [decide_eq_true h]
   simp only [Bool.not_true, cond_false]
   have h5 : lv (t.take 5) = lv (t.take 4) := by rw [htt, hz', Nat.mul_zero, Nat.add_zero]
   refine ⟨_, by rw [List.length_take, ht]; rfl, rfl, ?_⟩
   rw [h5, if_pos h]
  ·rw [decide_eq_false h]
   simp only [Bool.not_false, cond_true]
   have h5 : lv (t.take 5) = lv (t.take 4) := by rw [htt, hz', Nat.mul_zero, Nat.add_zero]
   refine ⟨_, by rw [List.length_take, g1]; rfl, rfl, ?_⟩
   rw [h5, if_neg h]
   rw [h5] at hb
   omega
 ·have hz' : (t.getD 4 0).toNat ≠ 0 := fun h => hz (UInt64.toNat_inj.1 h)
  rw [beq_eq_false_iff_ne.2 hz]
  simp only [Bool.not_false, cond_true]
  have hn : ¬ lv (t.take 5) < RR := fun h => hz' (c1 h)
  refine ⟨_, by rw [List.length_take, g1]; rfl, rfl, ?_⟩
  rw [if_neg hn]
  omega
theorem zbJ (N n : Nat) (a b : List UInt64) (iv : UInt64) (i : Nat) (hi : i < 6) : zdW N (n + 1) a b mL 4 iv (i : Int) = zdW N n a b mL 4 (iv * (2 - 18446744069414584321 * iv)) ((i + 1 : Nat) : Int) := by
 rw [zhc]
 unfold zit
 rw [zab (by omega), cond_true, show List.length mL = 4 from rfl, zab (by omega), mst2, zar (by omega), show List.getD mL 0 0 = 18446744069414584321 from rfl]
theorem zoN (N n : Nat) (a b : List UInt64) (iv : UInt64) : zdW N (n + 1) a b mL 4 iv ((6 : Nat) : Int) = zbo N N a b mL 4 (0 - iv) 0 [0, 0, 0, 0, 0, 0] := by
 rw [zhc]
 unfold zit
 have e : wr (4 + 2) = 6 := by decide +kernel
 have e1 : Int.toNat 6 = 6 := by decide
 have e2 : List.replicate 6 (0 : UInt64) = [0, 0, 0, 0, 0, 0] := by decide
 rw [zaa (by omega), cond_false, e, e1, e2, zaA (by omega), zax (by omega), zaE (by omega)]
 simp only [Bool.and_self, mst2]
def ivs (x : UInt64) : UInt64 := x * (2 - 18446744069414584321 * x)
theorem zss (N : Nat) (a b : List UInt64) (n : Nat) : zdW N (n + 7) a b mL 4 18446744069414584321 0 = zbo N N a b mL 4 18446744069414584319 0 [0, 0, 0, 0, 0, 0] := by
 have e : (0 : UInt64) - ivs (ivs (ivs (ivs (ivs (ivs 18446744069414584321))))) = 18446744069414584319 := by decide +kernel
 refine (zbJ N (n + 6) a b _ 0 (by omega)).trans ((zbJ N (n + 5) a b _ 1 (by omega)).trans ((zbJ N (n + 4) a b _ 2 (by omega)).trans ((zbJ N (n + 3) a b _ 3 (by omega)).trans ((zbJ N (n + 2) a b _ 4 (by omega)).trans ((zbJ N (n + 1) a b _ 5 (by omega)).trans ((zoN N n a b _).trans ?_))))))
 exact congrArg (fun v => zbo N N a b mL 4 v 0 [0, 0, 0, 0, 0, 0]) e
theorem zst {N : Nat} (hN : 10 < N) {a b : List UInt64} (ha : a.length = 4) (hb : b.length = 4) (hlt : lv b < RR) : ∃ r, r.length = 4 /\ q184 N a b mL = some (r, ()) /\ lv r = lv a * lv b * Binv % RR := by
 have hRR : RR < 18446744073709551616 ^ 4 := by decide
 have hR0 : 0 < RR := by decide
 have loop : ∀ (k n i : Nat) (t : List UInt64) (q : Nat), i + k = 4 -> k < n -> t.length = 6 -> lv (t.take 5) < lv b + RR -> 18446744073709551616 ^ i * lv (t.take 5) = lv (a.take i) * lv b + q * RR ->
   ∃ (t' : List UInt64) (q' n' : Nat), t'.length = 6 /\ lv (t'.take 5) < lv b + RR /\ 18446744073709551616 ^ 4 * lv (t'.take 5) = lv a * lv b + q' * RR /\ zbo N n a b mL 4 18446744069414584319 (i : Int) t = zbo N (n' + 1) a b mL 4 18446744069414584319 4 t' := by
  intro k
  induction k with
  | zero =>
   intro n i t q hi hn ht hl hv
   obtain ⟨n, rfl⟩ : ∃ m, n = m + 1 := ⟨n - 1, by omega⟩
   obtain rfl : i = 4 := by omega
   rw [List.take_of_length_le (l := a) (by omega)] at hv
   exact ⟨t, q, n, ht, hl, hv, rfl⟩
  | succ k ih =>
   intro n i t q hi hn ht hl hv
   obtain ⟨n, rfl⟩ : ∃ m, n = m + 1 := ⟨n - 1, by omega⟩
   obtain ⟨t', x, h1, h2, h3, h4⟩ := zkI hN a b t i (by omega) ha hb ht hl n
   have hb : (a.getD i 0).toNat <= 18446744073709551615 := by have := (a.getD i 0).toNat_lt; omega
   have h5 : (a.getD i 0).toNat * lv b <= 18446744073709551615 * lv b := Nat.mul_le_mul_right _ hb
   have h6 : x * RR <= 18446744073709551615 * RR := Nat.mul_le_mul_right _ (by omega)
   rw [h4]
   exact ih n (i + 1) t' (q + 18446744073709551616 ^ i * x) (by omega) (by omega) h1 (by omega) (by
    rw [Nat.pow_succ, Nat.mul_assoc, h2, zam a]
    exact alg3 _ _ _ _ _ _ _ _ hv)
 obtain ⟨t', q', n', h1, h2, h3, h4⟩ := loop 4 N 0 [0, 0, 0, 0, 0, 0] 0 rfl (by omega) rfl (by simp [lv]; omega) (by simp [lv])
 obtain ⟨n, hn⟩ : ∃ n, N = n + 7 := ⟨N - 7, by omega⟩
 have hq : q184 N a b mL = zdW N N a b mL 4 18446744069414584321 0 := rfl
 obtain ⟨r, hr1, hr2, hr3⟩ := zmD hN a b t' n' h1 (by omega)
 refine ⟨r, hr1, ?_, ?_⟩
 ·rw [hq]
  have e := zss N a b n
  rw [← hn] at e
  rw [e]
  exact h4.trans hr2
 ·refine znL h3 ?_ ?_
  ·split at hr3 <;> omega
  ·split at hr3 <;> omega
end
section
def frN (n : Nat) : Fr := ⟨UInt64.ofNat n, UInt64.ofNat (n / 18446744073709551616), UInt64.ofNat (n / 18446744073709551616 / 18446744073709551616), UInt64.ofNat (n / 18446744073709551616 / 18446744073709551616 / 18446744073709551616)⟩
theorem zwD {n : Nat} (h : n < 18446744073709551616 ^ 4) : fv (frN n) = n := by
 simp only [fv, frN, Fr.l, lv, UInt64.toNat_ofNat']
 omega
theorem zsu : RR < 18446744073709551616 ^ 4 := by decide
theorem zyQ {n : Nat} (h : n < RR) : fv (frN n) = n := zwD (Nat.lt_trans h zsu)
theorem zhh (n : Nat) : fv (frN (n % RR)) = n % RR := zyQ (zdw n)
theorem ziy {x : Fr} {n : Nat} (h : fv x = n) : x = frN n := zBW (by rw [zwD (by rw [← h]; exact zBV x), h])
theorem zBY (x : Fr) : frN (fv x) = x := (ziy rfl).symm
theorem zkJ (x y : Fr) : eqL El.u64 [x.a0, x.a1, x.a2, x.a3] [y.a0, y.a1, y.a2, y.a3] = decide (x = y) := by
 obtain ⟨a, b, c, d⟩ := x
 obtain ⟨a', b', c', d'⟩ := y
 rw [Bool.eq_iff_iff, decide_eq_true_iff]
 simp [eqL, eqE, eq64, and_assoc]
theorem zgd (N : Nat) (a b z : List UInt64) (ha : a.length = 4) (hb : b.length = 4) : ∀ (k n j : Nat) (c : UInt64) (t : List UInt64), j + k = 4 -> k < n -> t.length = 4 -> c.toNat <= 1 ->
  lv (t.take j) + 18446744073709551616 ^ j * c.toNat = lv (a.take j) + lv (b.take j) ->
  ∃ (c' : UInt64) (t' : List UInt64) (n' : Nat), t'.length = 4 /\ c'.toNat <= 1 /\ lv t' + 18446744073709551616 ^ 4 * c'.toNat = lv a + lv b /\ zkG N n c (j : Int) a b z t = zkG N (n' + 1) c' 4 a b z t' := by
 intro k
 induction k with
 | zero =>
  intro n j c t hj hn ht hc hv
  obtain ⟨n, rfl⟩ : ∃ m, n = m + 1 := ⟨n - 1, by omega⟩
  obtain rfl : j = 4 := by omega
  rw [List.take_of_length_le (l := t) (by omega), List.take_of_length_le (l := a) (by omega), List.take_of_length_le (l := b) (by omega)] at hv
  exact ⟨c, t, n, ht, hc, hv, rfl⟩
 | succ k ih =>
  intro n j c t hj hn ht hc hv
  obtain ⟨n, rfl⟩ : ∃ m, n = m + 1 := ⟨n - 1, by omega⟩
  obtain ⟨s, d, h1, h2, h3⟩ := zc7 (x := a.getD j 0) (y := b.getD j 0) hc
  rw [ziv]
  unfold zoH
  rw [zab (show (j : Int) < 4 by omega), cond_true, zar (by omega)]
  simp only [zbb, zas, Int.toNat_natCast]
  rw [zaB (by omega)]
  simp only [Bool.and_self, mst2, h1, bsm]
  refine ih n (j + 1) _ _ (by omega) (by omega) (by rw [zau]; exact ht) h2 ?_
  rw [zaL _ _ (by omega), zam a, zam b, Nat.pow_succ]
  exact alg4 _ _ _ _ _ _ _ _ _ _ hv h3
where
 alg4 (B A1 A2 A3 P x y c s d : Nat) (hv : A1 + P * c = A2 + A3) (h3 : s + B * d = x + y + c) : A1 + P * s + P * B * d = A2 + P * x + (A3 + P * y) := by
  have e : P * (s + B * d) = P * (x + y + c) := by rw [h3]
  grind
theorem zBZ {N : Nat} (hN : 10 < N) {a b : Fr} (ha : fv a < RR) (hb : fv b < RR) : q80 N a b = some (frN ((fv a + fv b) % RR), ()) := by
 have hRR := zsu
 obtain ⟨c', t', n', h1, h2, h3, h4⟩ := zgd N a.l b.l [0, 0, 0, 0] rfl rfl 4 N 0 0 [0, 0, 0, 0] rfl (by omega) rfl (by decide) (by simp [lv])
 have hq : q80 N a b = zkG N N 0 ((0 : Nat) : Int) a.l b.l [0, 0, 0, 0] [0, 0, 0, 0] := rfl
 obtain ⟨x, hx1, hx2⟩ := of4 h1
 have hfx : fv x = lv t' := by rw [fv, hx2]
 have e : fv x + 18446744073709551616 ^ 4 * c'.toNat = fv a + fv b := by rw [hfx, h3]; rfl
 obtain ⟨r, hr1, hr2⟩ := zsm hN x c' h2 (by omega)
 rw [hq, h4, ziv]
 unfold zoH
 rw [zaa (by omega), cond_false, hx1]
 simp only [bsm]
 rw [hr1]
 simp only [bsm]
 rw [e] at hr2
 have : r = frN ((fv a + fv b) % RR) := ziy (by
  rw [hr2]
  split
  ·rename_i h; rw [Nat.mod_eq_of_lt h]
  ·rename_i h; rw [Nat.mod_eq_sub_mod (by omega), Nat.mod_eq_of_lt (by omega)])
 rw [← this]
theorem spl4 {l : List UInt64} (h : l.length <= 4) : ∃ x, Fr.of? (zav [(0 : UInt64), 0, 0, 0] (Int.toNat 0) (List.take (Int.toNat (((4 : Nat) : Int) - 0)) l)) = some x /\ (zav [(0 : UInt64), 0, 0, 0] (Int.toNat 0) (List.take (Int.toNat (((4 : Nat) : Int) - 0)) l)).length = 4 /\ fv x = lv l := by
 rw [show Int.toNat (((4 : Nat) : Int) - 0) = 4 from rfl, List.take_of_length_le h]
 match l, h with
 | [], _ => exact ⟨(⟨0, 0, 0, 0⟩ : Fr), rfl, rfl, by simp [fv, Fr.l, lv]⟩
 | [a], _ => exact ⟨(⟨a, 0, 0, 0⟩ : Fr), rfl, rfl, by simp [fv, Fr.l, lv]⟩
 | [a, b], _ => exact ⟨(⟨a, b, 0, 0⟩ : Fr), rfl, rfl, by simp [fv, Fr.l, lv]⟩
 | [a, b, c], _ => exact ⟨(⟨a, b, c, 0⟩ : Fr), rfl, rfl, by simp [fv, Fr.l, lv]⟩
 | [a, b, c, d], _ => exact ⟨(⟨a, b, c, d⟩ : Fr), rfl, rfl, by simp [fv, Fr.l, lv]⟩
theorem zmE {N : Nat} {l : List UInt64} (h : l.length <= 4) : q175 N l = some (frN (lv l), ()) := by
 obtain ⟨x, h1, h2, h3⟩ := spl4 h
 unfold q175
 rw [h2, h1, show Nat.beq 4 4 = true from rfl]
 simp only [mst2, bsm]
 rw [← h3, zBY]
theorem zsv (N : Nat) (a b : List UInt64) (ha : a.length = 4) (hb : b.length = 4) : ∀ (k n j : Nat) (c : UInt64) (t : List UInt64), j + k = 4 -> k < n -> t.length = 4 -> c.toNat <= 1 ->
  lv (t.take j) + 18446744073709551616 ^ j * c.toNat = lv (a.take j) + lv (b.take j) ->
  ∃ (c' : UInt64) (t' : List UInt64) (n' : Nat), t'.length = 4 /\ c'.toNat <= 1 /\ lv t' + 18446744073709551616 ^ 4 * c'.toNat = lv a + lv b /\ zfL N n a b mL c (j : Int) t = zfL N (n' + 1) a b mL c' 4 t' := by
 intro k
 induction k with
 | zero =>
  intro n j c t hj hn ht hc hv
  obtain ⟨n, rfl⟩ : ∃ m, n = m + 1 := ⟨n - 1, by omega⟩
  obtain rfl : j = 4 := by omega
  rw [List.take_of_length_le (l := t) (by omega), List.take_of_length_le (l := a) (by omega), List.take_of_length_le (l := b) (by omega)] at hv
  exact ⟨c, t, n, ht, hc, hv, rfl⟩
 | succ k ih =>
  intro n j c t hj hn ht hc hv
  obtain ⟨n, rfl⟩ : ∃ m, n = m + 1 := ⟨n - 1, by omega⟩
  obtain ⟨s, d, h1, h2, h3⟩ := zc7 (x := a.getD j 0) (y := b.getD j 0) hc
  rw [zhd]
  unfold ziw
  rw [show List.length mL = 4 from rfl, zab (show (j : Int) < ((4 : Nat) : Int) by omega), cond_true, zar (by omega)]
  simp only [zbb, zas, Int.toNat_natCast]
  rw [zaB (show j < a.length by omega), zaB (show j < b.length by omega), zaB (show j < t.length by omega)]
  simp only [Bool.and_self, mst2, h1, bsm]
  refine ih n (j + 1) _ _ (by omega) (by omega) (by rw [zau]; exact ht) h2 ?_
  rw [zaL _ _ (by omega), zam a, zam b, Nat.pow_succ]
  exact zgd.alg4 _ _ _ _ _ _ _ _ _ _ hv h3
theorem zyR {t t' : List UInt64} {c' : UInt64} (ht : t.length = 4) (ht' : t'.length = 4) (h : lv (t'.take mL.length) + lv mL = lv (t.take mL.length) + 18446744073709551616 ^ mL.length * c'.toNat) : lv t' + RR = lv t + 18446744073709551616 ^ 4 * c'.toNat := by
 rw [show mL.length = 4 from rfl, zhg, List.take_of_length_le (by omega), List.take_of_length_le (by omega)] at h
 exact h
theorem zyS {N : Nat} (hN : 10 < N) {a b : List UInt64} (ha : a.length = 4) (hb : b.length = 4) (hal : lv a < RR) (hbl : lv b < RR) : ∃ r, q176 N a b mL = some (r, ()) /\ r.length = 4 /\ lv r = (lv a + lv b) % RR := by
 have hRR := zsu
 obtain ⟨c', t', n', h1, h2, h3, h4⟩ := zsv N a b ha hb 4 N 0 0 [0, 0, 0, 0] rfl (by omega) rfl (by decide) (by simp [lv])
 have hq : q176 N a b mL = zfL N N a b mL 0 ((0 : Nat) : Int) [0, 0, 0, 0] := by
  unfold q176
  rw [show List.length mL = 4 from rfl, Int.toNat_natCast, zax rfl, zaE (by omega)]
  simp only [Bool.and_self, mst2]
  rfl
 obtain ⟨c2, t2, g1, g2, g3, g4⟩ := zsr (N := N) (t := t') (m := mL) (by rw [h1]; decide) (by omega) (by show 4 < N; omega)
 have g5 := zyR h1 (by omega) g3
 have ht2 := zhM t2
 rw [g1, h1] at ht2
 have hmod : ∀ x, x < 2 * RR -> RR <= x -> x % RR = x - RR := fun x h1 h2 => by rw [Nat.mod_eq_sub_mod h2, Nat.mod_eq_of_lt (by omega)]
 rw [hq, h4, zhd]
 unfold ziw
 rw [show List.length mL = 4 from rfl, zaa (by omega), cond_false, h1, zaB (show 0 < 4 by omega)]
 simp only [mst2, g4, bsm, g1, h1]
 rw [show Nat.beq 4 4 = true from rfl]
 simp only [mst2]
 rw [zmz (N := N) (a := t') (m := mL) (by decide) (by rw [h1]; rfl) (by show 4 < N; omega), zhg]
 simp only [bsm]
 by_cases hc : c' = 1
 ·rw [hc] at h3 ⊢
  rw [show UInt64.toNat 1 = 1 from rfl] at h3
  simp only [beq_self_eq_true, cond_true]
  refine ⟨t2, rfl, by omega, ?_⟩
  rw [hmod _ (by omega) (by omega)]
  omega
 ·have hc0 : c'.toNat = 0 := by
   have : c'.toNat ≠ 1 := fun h => hc (UInt64.toNat_inj.1 h)
   omega
  rw [hc0] at h3
  rw [beq_eq_false_iff_ne.2 hc, cond_false]
  by_cases h : lv t' < RR
  ·rw [decide_eq_true h, Bool.not_true, cond_false]
   exact ⟨t', rfl, h1, by rw [← h3, Nat.mul_zero, Nat.add_zero, Nat.mod_eq_of_lt h]⟩
  ·rw [decide_eq_false h, Bool.not_false, cond_true]
   refine ⟨t2, rfl, by omega, ?_⟩
   rw [hmod _ (by omega) (by omega)]
   omega
theorem zB0 {N : Nat} (hN : 10 < N) {a b : Fr} (ha : fv a < RR) (hb : fv b < RR) : q81 N a b = some (frN ((fv a + fv b) % RR), ()) := by
 obtain ⟨r, h1, h2, h3⟩ := zyS hN (a := a.l) (b := b.l) rfl rfl ha hb
 have hq : q81 N a b = Option.bind (q176 N a.l b.l mL) fun r1 => Option.bind (q175 N r1.1) fun r2 => some ((Prod.fst r2, ())) := rfl
 rw [hq, h1]
 simp only [bsm]
 rw [zmE (by omega)]
 simp only [bsm]
 rw [h3]
 rfl
theorem zsw {N : Nat} (hN : 10 < N) {a b : Fr} (hb : fv b < RR) : q94 N a b = some (frN (fv a * fv b % RR), ()) := by
 obtain ⟨r, h1, h2, h3⟩ := zst hN (a := a.l) (b := b.l) rfl rfl hb
 obtain ⟨s, g1, g2, g3⟩ := zst hN (a := r) (b := [14526898881837571181, 3129137299524312099, 419701826671360399, 524908885293268753]) h1 rfl (by decide +kernel)
 have hq : q94 N a b = Option.bind (q184 N a.l b.l mL) fun r1 => Option.bind (q184 N (List.take r1.1.length (List.drop 0 r1.1)) ([14526898881837571181, 3129137299524312099, 419701826671360399, 524908885293268753]) mL) fun r2 => Option.bind (q175 N (List.take r2.1.length (List.drop 0 r2.1))) fun r3 => some ((Prod.fst r3, ())) := rfl
 rw [hq, h2]
 simp only [bsm, List.drop_zero, List.take_length]
 rw [g2]
 simp only [bsm, List.drop_zero, List.take_length]
 rw [zmE (by omega)]
 simp only [bsm]
 rw [g3, h3, Nat.mul_assoc, Nat.mod_mul_mod]
 have e : fv a * fv b * Binv * (lv [14526898881837571181, 3129137299524312099, 419701826671360399, 524908885293268753] * Binv) % RR = fv a * fv b % RR := by
  rw [← Nat.mul_mod_mod, zsq, Nat.mul_mod_mod, Nat.mul_assoc, Nat.mul_comm Binv, ← Nat.mul_mod_mod, zmx, Nat.mul_one]
 rw [← e]
 rfl
end
end Go.Proofs.Ytgimohchocjgcaa.V
