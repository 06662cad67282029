import Derived.Test.YtgimohchocjgcaaVSO
import Derived.Test.YtgimohchocjgcaaVLM
import Derived.Test.YtgimohchocjgcaaVLP
set_option linter.unusedVariables false
set_option linter.unusedSimpArgs false
namespace Go.Proofs.Ytgimohchocjgcaa.V
theorem must_1 {R : Type} {x : Option R} : must true x = x := rfl
def trn (x : UInt32) (n : Nat) : UInt32 := shr32 x n ||| shl32 x (32 - n)
theorem rot_cnt : ∀ n : Fin 32, 0 < n.val → (u64I (wr (0 - (n.val : Int))) &&& 31).toNat = 32 - n.val ∧ ((32 : UInt64) - (u64I (wr (0 - (n.val : Int))) &&& 31)).toNat = n.val := by decide +kernel
theorem q211_eq (N : Nat) (x : UInt32) (n : Nat) (h0 : 0 < n) (h : n < 32) : q211 N x (wr (0 - (n : Int))) = some (trn x n, ()) := by
  have e := rot_cnt ⟨n, h⟩ h0
  unfold q211 trn
  rw [e.1, e.2, UInt32.or_comm]
theorem q209_cnt : ∀ n : Fin 32, 0 < n.val → (UInt64.ofNat (Int.toNat (n.val : Int))).toNat = n.val ∧ (UInt64.ofNat (Int.toNat (wr (32 - (n.val : Int))))).toNat = 32 - n.val ∧ leI 0 (n.val : Int) = true ∧ ltI (n.val : Int) 18446744073709551616 = true ∧ leI 0 (wr (32 - (n.val : Int))) = true ∧ ltI (wr (32 - (n.val : Int))) 18446744073709551616 = true := by decide +kernel
theorem q209_eq (N : Nat) (x : UInt32) (n : Nat) (h0 : 0 < n) (h : n < 32) : q209 N x (n : Int) = some (trn x n, ()) := by
  obtain ⟨e1, e2, e3, e4, e5, e6⟩ := q209_cnt ⟨n, h⟩ h0
  unfold q209 trn
  simp only at e1 e2 e3 e4 e5 e6
  rw [e1, e2, e3, e4, e5, e6]
  rfl
theorem q155_eq (N : Nat) (x : UInt32) (a b c : Nat) (ha : 0 < a ∧ a < 32) (hb : 0 < b ∧ b < 32) (hc : 0 < c ∧ c < 32) : q155 N x (a : Int) (b : Int) (c : Int) = some (trn x a ^^^ trn x b ^^^ trn x c, ()) := by
  unfold q155
  rw [q211_eq N x a ha.1 ha.2, q211_eq N x b hb.1 hb.2, q211_eq N x c hc.1 hc.2]
  rfl
theorem q210_eq (N : Nat) (x : UInt32) (a b c : Nat) (ha : 0 < a ∧ a < 32) (hb : 0 < b ∧ b < 32) (hc : 0 < c ∧ c < 32) : q210 N x (a : Int) (b : Int) (c : Int) = some (trn x a ^^^ trn x b ^^^ shr32 x c, ()) := by
  unfold q210
  rw [q211_eq N x a ha.1 ha.2, q211_eq N x b hb.1 hb.2, u64I_nat (by omega)]
  rfl
theorem shl_or (x : UInt32) (c : UInt8) : (shl32 x 8 ||| UInt32.ofNat c.toNat) = shl32 x 8 + UInt32.ofNat c.toNat := by
  have hc : c.toNat < 256 := c.toNat_lt
  have hs : (shl32 x 8).toNat = x.toNat * 256 % 4294967296 := by simp [shl32, UInt32.toNat_ofNat']
  have hd : (UInt32.ofNat c.toNat).toNat = c.toNat := by rw [UInt32.toNat_ofNat']; omega
  have hm : x.toNat * 256 % 4294967296 = 2 ^ 8 * (x.toNat % 16777216) := by omega
  apply UInt32.toNat_inj.1
  rw [UInt32.toNat_or, UInt32.toNat_add, hs, hd, hm, ← Nat.two_pow_add_eq_or_of_lt (by omega : c.toNat < 2 ^ 8)]
  omega
def fillW (b : List UInt8) : Nat → Nat → List UInt32 → List UInt32
  | 0, _, w => w
  | k + 1, i, w => fillW b k (i + 1) (setL w (i / 4) (shl32 (w.getD (i / 4) 0) 8 + UInt32.ofNat (b.getD i 0).toNat))
theorem fillW_add (b : List UInt8) (k m i : Nat) (w : List UInt32) : fillW b (k + m) i w = fillW b m (i + k) (fillW b k i w) := by
  induction k generalizing i w with
  | zero => rw [Nat.zero_add]; rfl
  | succ k ih => rw [Nat.succ_add]; simp only [fillW]; rw [ih, show i + 1 + k = i + (k + 1) by omega]
theorem fillW_len (b : List UInt8) (k i : Nat) (w : List UInt32) : (fillW b k i w).length = w.length := by
  induction k generalizing i w with
  | zero => rfl
  | succ k ih => simp only [fillW]; rw [ih, length_setL]
def pu0 (x : UInt32) : UInt32 := trn x 7 ^^^ trn x 18 ^^^ shr32 x 3
def pu1 (x : UInt32) : UInt32 := trn x 17 ^^^ trn x 19 ^^^ shr32 x 10
def moreW : Nat → Nat → List UInt32 → List UInt32
  | 0, _, w => w
  | k + 1, i, w => moreW k (i + 1) (setL w i (w.getD (i - 16) 0 + pu0 (w.getD (i - 15) 0) + w.getD (i - 7) 0 + pu1 (w.getD (i - 2) 0)))
theorem moreW_len (k i : Nat) (w : List UInt32) : (moreW k i w).length = w.length := by
  induction k generalizing i w with
  | zero => rfl
  | succ k ih => simp only [moreW]; rw [ih, length_setL]
def rndS (kt w : List UInt32) (i : Nat) (s : List UInt32) : List UInt32 :=
  let x := s.getD 7 0 + (trn (s.getD 4 0) 6 ^^^ trn (s.getD 4 0) 11 ^^^ trn (s.getD 4 0) 25) + ((s.getD 4 0 &&& s.getD 5 0) ^^^ (~~~ s.getD 4 0 &&& s.getD 6 0)) + kt.getD i 0 + w.getD i 0
  let y := (trn (s.getD 0 0) 2 ^^^ trn (s.getD 0 0) 13 ^^^ trn (s.getD 0 0) 22) + ((s.getD 0 0 &&& s.getD 1 0) ^^^ (s.getD 0 0 &&& s.getD 2 0) ^^^ (s.getD 1 0 &&& s.getD 2 0))
  [x + y, s.getD 0 0, s.getD 1 0, s.getD 2 0, s.getD 3 0 + x, s.getD 4 0, s.getD 5 0, s.getD 6 0]
def rnds (kt w : List UInt32) : Nat → Nat → List UInt32 → List UInt32
  | 0, _, s => s
  | k + 1, i, s => rnds kt w k (i + 1) (rndS kt w i s)
def addW : List UInt32 → List UInt32 → List UInt32
  | x :: l, y :: m => (x + y) :: addW l m
  | l, _ => l
def zW : List UInt32 := List.replicate 64 0
def blk (h : List UInt32) (b : List UInt8) : List UInt32 := addW h (rnds tabK (moreW 48 16 (fillW b 64 0 zW)) 64 0 h)
theorem m153_12_eq (N : Nat) (b : List UInt32) : ∀ (k n i : Nat) (w : List UInt32), i + k = 64 → k < n → w.length = 64 → 16 ≤ i → m153_12 N n (i : Int) b w = some (moreW k i w, ()) := by
  intro k
  induction k with
  | zero =>
    intro n i w hi hn hw h16
    obtain ⟨n, rfl⟩ : ∃ m, n = m + 1 := ⟨n - 1, by omega⟩
    obtain rfl : i = 64 := by omega
    rw [m153_12_succ]
    unfold c153_12
    rw [ltI_false (by omega), cond_false, hw]
    rfl
  | succ k ih =>
    intro n i w hi hn hw h16
    obtain ⟨n, rfl⟩ : ∃ m, n = m + 1 := ⟨n - 1, by omega⟩
    rw [m153_12_succ]
    unfold c153_12
    have e1 : wr ((i : Int) - 16) = ((i - 16 : Nat) : Int) := by rw [wr_id (by omega) (by omega)]; omega
    have e2 : wr ((i : Int) - 15) = ((i - 15 : Nat) : Int) := by rw [wr_id (by omega) (by omega)]; omega
    have e3 : wr ((i : Int) - 7) = ((i - 7 : Nat) : Int) := by rw [wr_id (by omega) (by omega)]; omega
    have e4 : wr ((i : Int) - 2) = ((i - 2 : Nat) : Int) := by rw [wr_id (by omega) (by omega)]; omega
    have e5 : ∀ x, q210 N x 7 18 3 = some (pu0 x, ()) := fun x => q210_eq N x 7 18 3 (by omega) (by omega) (by omega)
    have e6 : ∀ x, q210 N x 17 19 10 = some (pu1 x, ()) := fun x => q210_eq N x 17 19 10 (by omega) (by omega) (by omega)
    rw [ltI_true (by omega), cond_true, e1, e2, e3, e4, wr_add1 (by omega)]
    simp only [ltI_nat, leI_zero, e5, e6, Option.bind_some, Int.toNat_natCast]
    rw [ltN_true (by omega), ltN_true (by omega), ltN_true (by omega), ltN_true (by omega), ltN_true (by omega)]
    simp only [Bool.and_self, must_1]
    rw [ih n (i + 1) _ (by omega) (by omega) (by rw [length_setL]; exact hw) (by omega)]
    rfl
theorem m153_6_eq (N : Nat) (A : Int → List UInt8 → List UInt32 → List UInt32 → Option (List UInt32 × Unit)) (b : List UInt8) (z : List UInt32) (t : Nat) (ht : t < 16) : ∀ (k n j : Nat) (w : List UInt32), j + k = 4 → k < n →
    m153_6 N A n (t : Int) (t : Int) (4 * t) 4 4 (j : Int) b z w = A ((t + 1 : Nat) : Int) b z (fillW b k (4 * t + j) w) := by
  intro k
  induction k with
  | zero =>
    intro n j w hj hn
    obtain ⟨n, rfl⟩ : ∃ m, n = m + 1 := ⟨n - 1, by omega⟩
    obtain rfl : j = 4 := by omega
    rw [m153_6_succ]
    unfold c153_6
    rw [ltI_false (by omega), cond_false, wr_add1 (by omega)]
    rfl
  | succ k ih =>
    intro n j w hj hn
    obtain ⟨n, rfl⟩ : ∃ m, n = m + 1 := ⟨n - 1, by omega⟩
    rw [m153_6_succ]
    unfold c153_6
    rw [ltI_true (by omega), cond_true, wr_add1 (by omega)]
    simp only [ltI_nat, leI_zero, Int.toNat_natCast]
    rw [ltN_true (by omega), ltN_true (by omega)]
    simp only [Bool.and_self, must_1]
    rw [show UInt64.toNat 8 = 8 from rfl, shl_or, ih n (j + 1) _ (by omega) (by omega)]
    simp only [fillW]
    rw [show (4 * t + j) / 4 = t by omega]
    rfl
theorem m153_3_eq (N : Nat) (hN : 100 < N) (b : List UInt8) (z : List UInt32) : ∀ (k n t : Nat) (w : List UInt32), t + k = 16 → k < n → w.length = 64 → m153_3 N n (t : Int) b z w = some (moreW 48 16 (fillW b (4 * k) (4 * t) w), ()) := by
  intro k
  induction k with
  | zero =>
    intro n t w ht hn hw
    obtain ⟨n, rfl⟩ : ∃ m, n = m + 1 := ⟨n - 1, by omega⟩
    obtain rfl : t = 16 := by omega
    rw [m153_3_succ]
    unfold c153_3
    rw [ltI_false (by omega), cond_false]
    exact m153_12_eq N z 48 N 16 w rfl (by omega) hw (Nat.le_refl _)
  | succ k ih =>
    intro n t w ht hn hw
    obtain ⟨n, rfl⟩ : ∃ m, n = m + 1 := ⟨n - 1, by omega⟩
    rw [m153_3_succ]
    unfold c153_3
    have e1 : wr (4 * (t : Int)) = ((4 * t : Nat) : Int) := by rw [wr_id (by omega) (by omega)]; omega
    have e2 : wr (((4 * t : Nat) : Int) + 4) = ((4 * t + 4 : Nat) : Int) := by rw [wr_id (by omega) (by omega)]; omega
    have e3 : Int.toNat (((4 * t + 4 : Nat) : Int) - ((4 * t : Nat) : Int)) = 4 := by omega
    rw [ltI_true (by omega), cond_true, e1, e2, e3, leI_zero, leI_true (by omega), leI_true (by omega)]
    simp only [Bool.and_self, must_1, Int.toNat_natCast]
    have h := m153_6_eq N (m153_3 N n) b z t (by omega) 4 N 0 w rfl (by omega)
    rw [show (4 : Int) = ((4 : Nat) : Int) from rfl, show (0 : Int) = ((0 : Nat) : Int) from rfl] at *
    rw [h, ih n (t + 1) _ (by omega) (by omega) (by rw [fillW_len]; exact hw), show 4 * (k + 1) = 4 + 4 * k by omega, fillW_add]
    rfl
theorem q153_eq {N : Nat} (hN : 100 < N) {b : List UInt8} (hb : b.length = 64) : q153 N b = some (moreW 48 16 (fillW b 64 0 zW), ()) := by
  unfold q153
  rw [hb]
  exact m153_3_eq N hN b _ 16 N 0 _ rfl (by omega) rfl
theorem m48_9_eq (N : Nat) (z : List UInt32) (s0 s1 s2 s3 s4 s5 s6 s7 h0 h1 h2 h3 h4 h5 h6 h7 : UInt32) (n : Nat) : m48_9 N (n + 9) [s0, s1, s2, s3, s4, s5, s6, s7] 0 [h0, h1, h2, h3, h4, h5, h6, h7] z = some (addW [h0, h1, h2, h3, h4, h5, h6, h7] [s0, s1, s2, s3, s4, s5, s6, s7], ()) := rfl
theorem addW_len (h s : List UInt32) : (addW h s).length = h.length := by
  induction h generalizing s with
  | nil => cases s <;> rfl
  | cons x l ih => cases s with
    | nil => rfl
    | cons y m => simp [addW, ih]
theorem list8 {l : List UInt32} (h : l.length = 8) : ∃ a b c d e f g i, l = [a, b, c, d, e, f, g, i] := by
  match l, h with
  | [a, b, c, d, e, f, g, i], _ => exact ⟨a, b, c, d, e, f, g, i, rfl⟩
theorem m48_9_out {N : Nat} (hN : 100 < N) {h s z : List UInt32} (hh : h.length = 8) (hs : s.length = 8) : m48_9 N N s 0 h z = some (addW h s, ()) := by
  obtain ⟨a, b, c, d, e, f, g, i, rfl⟩ := list8 hh
  obtain ⟨a', b', c', d', e', f', g', i', rfl⟩ := list8 hs
  obtain ⟨n, rfl⟩ : ∃ n, N = n + 9 := ⟨N - 9, by omega⟩
  exact m48_9_eq _ z a' b' c' d' e' f' g' i' a b c d e f g i n
theorem m48_1000_eq {N : Nat} (hN : 100 < N) (h z w kt : List UInt32) (hh : h.length = 8) : ∀ (k n i : Nat) (s : List UInt32), i + (k + 1) = 64 → k < n → m48_1000 N n (i : Int) h z w kt s = some (addW h (rnds kt w (k + 1) i s), ()) := by
  intro k
  induction k with
  | zero =>
    intro n i s hi hn
    obtain ⟨n, rfl⟩ : ∃ m, n = m + 1 := ⟨n - 1, by omega⟩
    rw [m48_1000_succ]
    unfold c48_1000
    have e5 : ∀ x, q155 N x 6 11 25 = some (trn x 6 ^^^ trn x 11 ^^^ trn x 25, ()) := fun x => q155_eq N x 6 11 25 (by omega) (by omega) (by omega)
    have e6 : ∀ x, q155 N x 2 13 22 = some (trn x 2 ^^^ trn x 13 ^^^ trn x 22, ()) := fun x => q155_eq N x 2 13 22 (by omega) (by omega) (by omega)
    simp only [e5, e6, Option.bind_some]
    rw [wr_add1 (by omega), ltI_true (show (i : Int) < ((64 : Nat) : Int) by omega), leI_zero, ltI_false (by omega), cond_false]
    simp only [Bool.and_self, must_1]
    rw [m48_9_out hN hh rfl]
    simp only [rnds, rndS, Int.toNat_natCast]
  | succ k ih =>
    intro n i s hi hn
    obtain ⟨n, rfl⟩ : ∃ m, n = m + 1 := ⟨n - 1, by omega⟩
    rw [m48_1000_succ]
    unfold c48_1000
    have e5 : ∀ x, q155 N x 6 11 25 = some (trn x 6 ^^^ trn x 11 ^^^ trn x 25, ()) := fun x => q155_eq N x 6 11 25 (by omega) (by omega) (by omega)
    have e6 : ∀ x, q155 N x 2 13 22 = some (trn x 2 ^^^ trn x 13 ^^^ trn x 22, ()) := fun x => q155_eq N x 2 13 22 (by omega) (by omega) (by omega)
    simp only [e5, e6, Option.bind_some]
    rw [wr_add1 (by omega), ltI_true (show (i : Int) < ((64 : Nat) : Int) by omega), leI_zero, ltI_true (by omega), cond_true]
    simp only [Bool.and_self, must_1]
    rw [ih n (i + 1) _ (by omega) (by omega)]
    simp only [rnds, rndS, Int.toNat_natCast]
theorem q48_eq {N : Nat} (hN : 100 < N) {h : List UInt32} {b : List UInt8} (hh : h.length = 8) (hb : b.length = 64) : q48 N h b = some (blk h b, ()) := by
  have e := q153_eq hN hb
  have e2 : (moreW 48 16 (fillW b 64 0 zW)).length = 64 := by rw [moreW_len, fillW_len]; rfl
  unfold q48
  rw [e, table_is]
  simp only [Option.bind_some, hh, hb, e2]
  have e3 := m48_1000_eq hN h (List.replicate 8 0) (moreW 48 16 (fillW b 64 0 zW)) tabK hh 63 N 0 h rfl (by omega)
  exact e3
theorem blk_len {h : List UInt32} {b : List UInt8} (hh : h.length = 8) : (blk h b).length = 8 := by
  unfold blk; rw [addW_len]; exact hh
theorem m152_20_out {N : Nat} (hN : 100 < N) {h s z : List UInt32} (hh : h.length = 8) (hs : s.length = 8) : m152_20 N N 0 h z s = some (addW h s, ()) := by
  obtain ⟨a, b, c, d, e, f, g, i, rfl⟩ := list8 hh
  obtain ⟨a', b', c', d', e', f', g', i', rfl⟩ := list8 hs
  obtain ⟨n, rfl⟩ : ∃ n, N = n + 9 := ⟨N - 9, by omega⟩
  have e : m152_20 (n + 9) (n + 9) 0 [a, b, c, d, e, f, g, i] z [a', b', c', d', e', f', g', i'] = some ([a' + a, b' + b, c' + c, d' + d, e' + e, f' + f, g' + g, i' + i], ()) := rfl
  rw [e]
  simp only [addW, UInt32.add_comm]
theorem m152_13_eq {N : Nat} (hN : 100 < N) (h z w kt : List UInt32) (hh : h.length = 8) : ∀ (k n i : Nat) (s : List UInt32), i + k = 64 → k < n → s.length = 8 → m152_13 N n (i : Int) h kt z w s = some (addW h (rnds kt w k i s), ()) := by
  intro k
  induction k with
  | zero =>
    intro n i s hi hn hs
    obtain ⟨n, rfl⟩ : ∃ m, n = m + 1 := ⟨n - 1, by omega⟩
    rw [m152_13_succ]
    unfold c152_13
    rw [ltI_false (by omega), cond_false]
    exact m152_20_out hN hh hs
  | succ k ih =>
    intro n i s hi hn hs
    obtain ⟨n, rfl⟩ : ∃ m, n = m + 1 := ⟨n - 1, by omega⟩
    rw [m152_13_succ]
    unfold c152_13
    have e1 : ∀ x, q209 N x 6 = some (trn x 6, ()) := fun x => q209_eq N x 6 (by omega) (by omega)
    have e2 : ∀ x, q209 N x 11 = some (trn x 11, ()) := fun x => q209_eq N x 11 (by omega) (by omega)
    have e3 : ∀ x, q209 N x 25 = some (trn x 25, ()) := fun x => q209_eq N x 25 (by omega) (by omega)
    have e4 : ∀ x, q209 N x 2 = some (trn x 2, ()) := fun x => q209_eq N x 2 (by omega) (by omega)
    have e5 : ∀ x, q209 N x 13 = some (trn x 13, ()) := fun x => q209_eq N x 13 (by omega) (by omega)
    have e6 : ∀ x, q209 N x 22 = some (trn x 22, ()) := fun x => q209_eq N x 22 (by omega) (by omega)
    simp only [e1, e2, e3, e4, e5, e6, Option.bind_some]
    rw [wr_add1 (by omega), ltI_true (by omega), cond_true, ltI_true (show (i : Int) < ((64 : Nat) : Int) by omega), leI_zero]
    simp only [Bool.and_self, must_1]
    rw [ih n (i + 1) _ (by omega) (by omega) rfl]
    simp only [rnds, rndS, Int.toNat_natCast]
theorem m152_7_eq {N : Nat} (hN : 100 < N) (h kt z : List UInt32) (hh : h.length = 8) : ∀ (k n i : Nat) (w : List UInt32), i + k = 64 → k < n → w.length = 64 → 16 ≤ i → m152_7 N n (i : Int) h kt z w = some (addW h (rnds kt (moreW k i w) 64 0 h), ()) := by
  intro k
  induction k with
  | zero =>
    intro n i w hi hn hw h16
    obtain ⟨n, rfl⟩ : ∃ m, n = m + 1 := ⟨n - 1, by omega⟩
    rw [m152_7_succ]
    unfold c152_7
    rw [ltI_false (by omega), cond_false, hh]
    exact m152_13_eq hN h z w kt hh 64 N 0 h rfl (by omega) hh
  | succ k ih =>
    intro n i w hi hn hw h16
    obtain ⟨n, rfl⟩ : ∃ m, n = m + 1 := ⟨n - 1, by omega⟩
    rw [m152_7_succ]
    unfold c152_7
    have e1 : wr ((i : Int) - 16) = ((i - 16 : Nat) : Int) := by rw [wr_id (by omega) (by omega)]; omega
    have e2 : wr ((i : Int) - 15) = ((i - 15 : Nat) : Int) := by rw [wr_id (by omega) (by omega)]; omega
    have e3 : wr ((i : Int) - 7) = ((i - 7 : Nat) : Int) := by rw [wr_id (by omega) (by omega)]; omega
    have e4 : wr ((i : Int) - 2) = ((i - 2 : Nat) : Int) := by rw [wr_id (by omega) (by omega)]; omega
    have f1 : ∀ x, q209 N x 7 = some (trn x 7, ()) := fun x => q209_eq N x 7 (by omega) (by omega)
    have f2 : ∀ x, q209 N x 18 = some (trn x 18, ()) := fun x => q209_eq N x 18 (by omega) (by omega)
    have f3 : ∀ x, q209 N x 17 = some (trn x 17, ()) := fun x => q209_eq N x 17 (by omega) (by omega)
    have f4 : ∀ x, q209 N x 19 = some (trn x 19, ()) := fun x => q209_eq N x 19 (by omega) (by omega)
    rw [ltI_true (by omega), cond_true, e1, e2, e3, e4, wr_add1 (by omega)]
    simp only [ltI_nat, leI_zero, f1, f2, f3, f4, Option.bind_some, Int.toNat_natCast]
    rw [ltN_true (by omega), ltN_true (by omega), ltN_true (by omega), ltN_true (by omega), ltN_true (by omega)]
    simp only [Bool.and_self, must_1]
    rw [ih n (i + 1) _ (by omega) (by omega) (by rw [length_setL]; exact hw) (by omega)]
    rfl
theorem m152_3_eq {N : Nat} (hN : 100 < N) (h kt z : List UInt32) (b : List UInt8) (hh : h.length = 8) : ∀ (k n i : Nat) (w : List UInt32), i + k = 64 → k < n → w.length = 64 → m152_3 N n (i : Int) h b kt z w = some (addW h (rnds kt (moreW 48 16 (fillW b k i w)) 64 0 h), ()) := by
  intro k
  induction k with
  | zero =>
    intro n i w hi hn hw
    obtain ⟨n, rfl⟩ : ∃ m, n = m + 1 := ⟨n - 1, by omega⟩
    rw [m152_3_succ]
    unfold c152_3
    rw [ltI_false (by omega), cond_false]
    exact m152_7_eq hN h kt z hh 48 N 16 w rfl (by omega) hw (Nat.le_refl _)
  | succ k ih =>
    intro n i w hi hn hw
    obtain ⟨n, rfl⟩ : ∃ m, n = m + 1 := ⟨n - 1, by omega⟩
    rw [m152_3_succ]
    unfold c152_3
    have e1 : wr (Int.tdiv (i : Int) 4) = ((i / 4 : Nat) : Int) := by rw [Int.tdiv_eq_ediv_of_nonneg (by omega), wr_id (by omega) (by omega)]; omega
    rw [ltI_true (by omega), cond_true, e1, wr_add1 (by omega)]
    simp only [ltI_nat, leI_zero, Int.toNat_natCast]
    rw [ltN_true (by omega), ltN_true (by omega)]
    simp only [Bool.and_self, must_1]
    rw [ih n (i + 1) _ (by omega) (by omega) (by rw [length_setL]; exact hw)]
    rfl
theorem q152_eq {N : Nat} (hN : 100 < N) {h : List UInt32} {b : List UInt8} (hh : h.length = 8) (hb : b.length = 64) : q152 N h b tabK = some (blk h b, ()) := by
  have e := m152_3_eq hN h tabK (List.replicate 8 0) b hh 64 N 0 (List.replicate 64 0) rfl (by omega) rfl
  unfold q152
  rw [hh, hb]
  exact e
end Go.Proofs.Ytgimohchocjgcaa.V
