import Derived.Test.YtgimohchocjgcaaVFT
set_option linter.unusedVariables false
set_option linter.unusedSimpArgs false
namespace Go.Proofs.Ytgimohchocjgcaa.V
def pm (a : Nat) : Nat → Nat → Nat
  | 0, _ => 1
  | k + 1, e => cond (Nat.beq (e % 2) 1) (pm a k (e / 2) * pm a k (e / 2) % RR * a % RR) (pm a k (e / 2) * pm a k (e / 2) % RR)
theorem pm_eq (a : Nat) : ∀ (k e : Nat), e < 2 ^ k → pm a k e = a ^ e % RR := by
  intro k
  induction k with
  | zero =>
    intro e he
    obtain rfl : e = 0 := by omega
    rfl
  | succ k ih =>
    intro e he
    have h := ih (e / 2) (by rw [Nat.pow_succ] at he; omega)
    have e1 : (a ^ (e / 2) % RR) * (a ^ (e / 2) % RR) % RR = a ^ (e / 2) * a ^ (e / 2) % RR := (Nat.mul_mod _ _ _).symm
    have h2 : e % 2 = 0 ∨ e % 2 = 1 := by omega
    unfold pm
    rw [h, e1]
    rcases h2 with h2 | h2
    · rw [h2, show Nat.beq 0 1 = false from rfl, cond_false, ← Nat.pow_add, show e / 2 + e / 2 = e by omega]
    · rw [h2, show Nat.beq 1 1 = true from rfl, cond_true, Nat.mod_mul_mod, ← Nat.pow_add, ← Nat.pow_succ, show (e / 2 + e / 2).succ = e by omega]
theorem pm_eq' (a e : Nat) (h : e < RR) : pm a 256 e = a ^ e % RR := pm_eq a 256 e (Nat.lt_trans h (by decide))
theorem one_gcd (g a b : Nat) : Cg (g ^ a) 1 → Cg (g ^ b) 1 → Cg (g ^ (Nat.gcd a b)) 1 := by
  induction a, b using Nat.gcd.induction with
  | H0 n => intro _ h; rwa [Nat.gcd_zero_left]
  | H1 m n hm ih =>
    intro h1 h2
    rw [Nat.gcd_rec]
    refine ih ?_ h1
    have e : g ^ n = (g ^ m) ^ (n / m) * g ^ (n % m) := by rw [← Nat.pow_mul, ← Nat.pow_add, Nat.div_add_mod]
    rw [e] at h2
    have h3 := (h1.pow (n / m)).mul (Cg.rfl' (a := g ^ (n % m)))
    rw [Nat.one_pow, Nat.one_mul] at h3
    exact h3.symm.trans h2
def nd (q : Nat) : Nat → Nat → Bool
  | 0, lo => !(Nat.beq (q % lo) 0)
  | k + 1, lo => nd q k lo && nd q k (lo + 2 ^ k)
theorem nd_ok (q : Nat) : ∀ (k lo : Nat), nd q k lo = true → ∀ d, lo ≤ d → d < lo + 2 ^ k → q % d ≠ 0 := by
  intro k
  induction k with
  | zero =>
    intro lo h d h1 h2
    obtain rfl : d = lo := by omega
    intro h3
    simp [nd, h3] at h
  | succ k ih =>
    intro lo h d h1 h2
    simp only [nd, Bool.and_eq_true] at h
    rw [Nat.pow_succ] at h2
    by_cases h3 : d < lo + 2 ^ k
    · exact ih lo h.1 d h1 h3
    · exact ih _ h.2 d (by omega) (by omega)
def Prm (q : Nat) : Prop := 2 ≤ q ∧ ∀ d, d ∣ q → d = 1 ∨ d = q
theorem prm_of {q k : Nat} (h2 : 2 + 2 ^ k ≤ q) (hk : q < (2 + 2 ^ k) * (2 + 2 ^ k)) (h : nd q k 2 = true) : Prm q := by
  have hp : 0 < 2 ^ k := Nat.pow_pos (by decide)
  refine ⟨by omega, fun d hd => ?_⟩
  obtain ⟨e, he⟩ := hd
  have hd0 : d ≠ 0 := fun h0 => by rw [h0, Nat.zero_mul] at he; omega
  have he0 : e ≠ 0 := fun h0 => by rw [h0, Nat.mul_zero] at he; omega
  by_cases h1 : d = 1
  · exact Or.inl h1
  by_cases h3 : e = 1
  · right; rw [he, h3, Nat.mul_one]
  exfalso
  by_cases h4 : d < 2 + 2 ^ k
  · exact nd_ok q k 2 h d (by omega) h4 (by rw [he]; exact Nat.mul_mod_right _ _)
  by_cases h5 : e < 2 + 2 ^ k
  · exact nd_ok q k 2 h e (by omega) h5 (by rw [he]; exact Nat.mul_mod_left _ _)
  have := Nat.mul_le_mul (Nat.le_of_not_lt h4) (Nat.le_of_not_lt h5)
  omega
theorem prm_cop {m q : Nat} (hq : Prm q) (h : ¬ q ∣ m) : Nat.Coprime m q := by
  rcases hq.2 _ (Nat.gcd_dvd_right m q) with h1 | h1
  · exact h1
  · exact absurd (h1 ▸ Nat.gcd_dvd_left m q) h
theorem prm2 : Prm 2 := ⟨by decide, fun d hd => by
  have := Nat.le_of_dvd (by decide) hd
  have h0 : d ≠ 0 := fun h => by rw [h] at hd; exact absurd hd (by decide)
  omega⟩
theorem prm3 : Prm 3 := prm_of (k := 0) (by decide) (by decide) (by decide +kernel)
theorem prm11 : Prm 11 := prm_of (k := 1) (by decide) (by decide) (by decide +kernel)
theorem prm19 : Prm 19 := prm_of (k := 2) (by decide) (by decide) (by decide +kernel)
theorem prm10177 : Prm 10177 := prm_of (k := 7) (by decide) (by decide) (by decide +kernel)
theorem prm125527 : Prm 125527 := prm_of (k := 9) (by decide) (by decide) (by decide +kernel)
theorem prm859267 : Prm 859267 := prm_of (k := 10) (by decide) (by decide) (by decide +kernel)
theorem prm906349 : Prm 906349 := prm_of (k := 10) (by decide) (by decide) (by decide +kernel)
theorem prm2508409 : Prm 2508409 := prm_of (k := 11) (by decide) (by decide) (by decide +kernel)
theorem prm2529403 : Prm 2529403 := prm_of (k := 11) (by decide) (by decide) (by decide +kernel)
theorem prm52437899 : Prm 52437899 := prm_of (k := 13) (by decide) (by decide) (by decide +kernel)
theorem prm254760293 : Prm 254760293 := prm_of (k := 14) (by decide) (by decide) (by decide +kernel)
theorem far2 : pm 7 256 ((RR - 1) / 2) ≠ 1 := by decide +kernel
theorem far3 : pm 7 256 ((RR - 1) / 3) ≠ 1 := by decide +kernel
theorem far11 : pm 7 256 ((RR - 1) / 11) ≠ 1 := by decide +kernel
theorem far19 : pm 7 256 ((RR - 1) / 19) ≠ 1 := by decide +kernel
theorem far10177 : pm 7 256 ((RR - 1) / 10177) ≠ 1 := by decide +kernel
theorem far125527 : pm 7 256 ((RR - 1) / 125527) ≠ 1 := by decide +kernel
theorem far859267 : pm 7 256 ((RR - 1) / 859267) ≠ 1 := by decide +kernel
theorem far906349 : pm 7 256 ((RR - 1) / 906349) ≠ 1 := by decide +kernel
theorem far2508409 : pm 7 256 ((RR - 1) / 2508409) ≠ 1 := by decide +kernel
theorem far2529403 : pm 7 256 ((RR - 1) / 2529403) ≠ 1 := by decide +kernel
theorem far52437899 : pm 7 256 ((RR - 1) / 52437899) ≠ 1 := by decide +kernel
theorem far254760293 : pm 7 256 ((RR - 1) / 254760293) ≠ 1 := by decide +kernel
theorem whole7 : Cg (7 ^ (RR - 1)) 1 := by
  have h : pm 7 256 (RR - 1) = 1 := by decide +kernel
  rw [pm_eq' 7 _ (by decide)] at h
  unfold Cg
  rw [h]
  decide
theorem RR_fac : RR - 1 = 2 ^ 32 * 3 ^ 1 * 11 ^ 1 * 19 ^ 1 * 10177 ^ 1 * 125527 ^ 1 * 859267 ^ 1 * 906349 ^ 2 * 2508409 ^ 1 * 2529403 ^ 1 * 52437899 ^ 1 * 254760293 ^ 2 := by decide +kernel
theorem not_dvd {q g m : Nat} (h0 : 0 < q) (hq : pm 7 256 ((RR - 1) / q) ≠ 1) (hm : RR - 1 = g * m) (hg : Cg (7 ^ g) 1) : ¬ q ∣ m := by
  rintro ⟨c, rfl⟩
  apply hq
  have e : (RR - 1) / q = g * c := Nat.div_eq_of_eq_mul_right h0 (by rw [hm, Nat.mul_left_comm])
  rw [pm_eq' 7 _ (Nat.lt_of_le_of_lt (Nat.div_le_self _ _) (by decide)), e, Nat.pow_mul]
  have := hg.pow c
  rw [Nat.one_pow] at this
  unfold Cg at this
  rw [this]
  decide
theorem order7 {e : Nat} (h0 : 0 < e) (h1 : e < RR - 1) : ¬ Cg (7 ^ e) 1 := by
  intro h
  have hg := one_gcd 7 e (RR - 1) h whole7
  obtain ⟨m, hm⟩ := Nat.gcd_dvd_right e (RR - 1)
  have hle := Nat.le_of_dvd h0 (Nat.gcd_dvd_left e (RR - 1))
  generalize Nat.gcd e (RR - 1) = g at *
  have hm1 : m ≠ 1 := fun h => by rw [h, Nat.mul_one] at hm; omega
  apply hm1
  have c : ∀ q, Prm q → pm 7 256 ((RR - 1) / q) ≠ 1 → Nat.Coprime m q := fun q h1 h2 => prm_cop h1 (not_dvd (by have := h1.1; omega) h2 hm hg)
  have hd : m ∣ RR - 1 := ⟨g, by rw [hm, Nat.mul_comm]⟩
  refine Nat.Coprime.eq_one_of_dvd ?_ hd
  rw [RR_fac]
  have c2 := (c 2 prm2 far2).pow_right 32
  have c3 := (c 3 prm3 far3).pow_right 1
  have c11 := (c 11 prm11 far11).pow_right 1
  have c19 := (c 19 prm19 far19).pow_right 1
  have c10177 := (c 10177 prm10177 far10177).pow_right 1
  have c125527 := (c 125527 prm125527 far125527).pow_right 1
  have c859267 := (c 859267 prm859267 far859267).pow_right 1
  have c906349 := (c 906349 prm906349 far906349).pow_right 2
  have c2508409 := (c 2508409 prm2508409 far2508409).pow_right 1
  have c2529403 := (c 2529403 prm2529403 far2529403).pow_right 1
  have c52437899 := (c 52437899 prm52437899 far52437899).pow_right 1
  have c254760293 := (c 254760293 prm254760293 far254760293).pow_right 2
  exact (((((((((((c2.mul_right c3).mul_right c11).mul_right c19).mul_right c10177).mul_right c125527).mul_right c859267).mul_right c906349).mul_right c2508409).mul_right c2529403).mul_right c52437899).mul_right c254760293)
theorem surj : ∀ (n : Nat) (f : Nat → Nat), (∀ i, i < n → f i < n) → (∀ i j, i < n → j < n → f i = f j → i = j) → ∀ y, y < n → ∃ i, i < n ∧ f i = y := by
  intro n
  induction n with
  | zero => intro f _ _ y hy; omega
  | succ n ih =>
    intro f h1 h2 y hy
    have hg1 : ∀ i, i < n → (if f i = n then f n else f i) < n := by
      intro i hi
      have a := h1 i (by omega)
      have b := h1 n (by omega)
      split
      · rename_i h
        have : f n ≠ n := fun h3 => by
          have := h2 i n (by omega) (by omega) (by rw [h, h3])
          omega
        omega
      · rename_i h; omega
    have hg2 : ∀ i j, i < n → j < n → (if f i = n then f n else f i) = (if f j = n then f n else f j) → i = j := by
      intro i j hi hj h
      split at h <;> split at h
      · rename_i a b; exact h2 i j (by omega) (by omega) (by rw [a, b])
      · rename_i a b
        have := h2 n j (by omega) (by omega) h
        omega
      · rename_i a b
        have := h2 i n (by omega) (by omega) h
        omega
      · exact h2 i j (by omega) (by omega) h
    by_cases hc : y = f n
    · exact ⟨n, by omega, hc.symm⟩
    by_cases hy2 : y = n
    · have hcn : f n < n := by have := h1 n (by omega); omega
      obtain ⟨i, hi, h⟩ := ih _ hg1 hg2 (f n) hcn
      split at h
      · rename_i a; exact ⟨i, by omega, by rw [a, hy2]⟩
      · have := h2 i n (by omega) (by omega) h
        omega
    · obtain ⟨i, hi, h⟩ := ih _ hg1 hg2 y (by omega)
      split at h
      · exact absurd h.symm hc
      · exact ⟨i, by omega, h⟩
theorem RR1 : 1 < RR := by decide
theorem cg01 : ¬ Cg 0 1 := by unfold Cg; decide
theorem unit7 {i : Nat} (h : i ≤ RR - 1) : Cg (7 ^ i * 7 ^ (RR - 1 - i)) 1 := by
  rw [← Nat.pow_add, show i + (RR - 1 - i) = RR - 1 by omega]
  exact whole7
theorem pow7_ne {i : Nat} (h : i ≤ RR - 1) : 7 ^ i % RR ≠ 0 := by
  intro h0
  have h1 := unit7 h
  have h2 : Cg (7 ^ i) 0 := by unfold Cg; rw [h0, Nat.zero_mod]
  have h3 := (h2.mul (Cg.rfl' (a := 7 ^ (RR - 1 - i)))).symm.trans h1
  rw [Nat.zero_mul] at h3
  exact cg01 h3
theorem inj7 {i j : Nat} (hij : i < j) (hj : j < RR - 1) : ¬ Cg (7 ^ i) (7 ^ j) := by
  intro h
  have h1 := unit7 (i := i) (by omega)
  have h2 := (h.mul (Cg.rfl' (a := 7 ^ (RR - 1 - i)))).symm.trans h1
  have e : 7 ^ j * 7 ^ (RR - 1 - i) = 7 ^ (j - i) * 7 ^ (RR - 1) := by rw [← Nat.pow_add, ← Nat.pow_add]; congr 1; omega
  rw [e] at h2
  have h3 := (Cg.rfl' (a := 7 ^ (j - i))).mul whole7
  rw [Nat.mul_one] at h3
  exact order7 (by omega) (by omega) (h3.symm.trans h2)
theorem log7 {a : Nat} (h0 : 0 < a) (h1 : a < RR) : ∃ i, 7 ^ i % RR = a := by
  have hR := RR1
  obtain ⟨i, hi, h⟩ := surj (RR - 1) (fun i => 7 ^ i % RR - 1) (fun i hi => by
      have := pow7_ne (i := i) (by omega)
      have := mod_lt_RR (7 ^ i)
      omega)
    (fun i j hi hj h => by
      have a1 := pow7_ne (i := i) (by omega)
      have a2 := pow7_ne (i := j) (by omega)
      have h2 : 7 ^ i % RR = 7 ^ j % RR := by omega
      rcases Nat.lt_trichotomy i j with c | c | c
      · exact absurd h2 (inj7 c (by omega))
      · exact c
      · exact absurd h2.symm (inj7 c (by omega)))
    (a - 1) (by omega)
  have := pow7_ne (i := i) (by omega)
  exact ⟨i, by omega⟩
theorem fermat {a : Nat} (h0 : 0 < a) (h1 : a < RR) : Cg (a ^ (RR - 1)) 1 := by
  obtain ⟨i, hi⟩ := log7 h0 h1
  have h : Cg a (7 ^ i) := by unfold Cg; rw [hi, Nat.mod_eq_of_lt h1]
  have h2 := h.pow (RR - 1)
  rw [← Nat.pow_mul, Nat.mul_comm, Nat.pow_mul] at h2
  have h3 := whole7.pow i
  rw [Nat.one_pow] at h3
  exact h2.trans h3
theorem inv_mul {a : Nat} (h0 : 0 < a) (h1 : a < RR) : Cg (a * a ^ (RR - 2)) 1 := by
  have h := fermat h0 h1
  rw [show RR - 1 = RR - 2 + 1 from rfl, Nat.pow_succ, Nat.mul_comm] at h
  exact h
theorem mul_ne {a b : Nat} (ha : 0 < a) (ha1 : a < RR) (hb : 0 < b) (hb1 : b < RR) : a * b % RR ≠ 0 := by
  intro h
  have h1 : Cg (a * b) 0 := by unfold Cg; rw [h, Nat.zero_mod]
  have h2 := h1.mul (Cg.rfl' (a := a ^ (RR - 2)))
  rw [Nat.zero_mul, Nat.mul_right_comm] at h2
  have h3 := ((inv_mul ha ha1).mul (Cg.rfl' (a := b))).symm.trans h2
  rw [Nat.one_mul] at h3
  unfold Cg at h3
  rw [Nat.mod_eq_of_lt hb1, Nat.zero_mod] at h3
  omega
end Go.Proofs.Ytgimohchocjgcaa.V
