import Derived.Test.YtgimohchocjgcaaVUM
import Derived.Test.YtgimohchocjgcaaVFP
import Derived.KernelRfl
import Derived.Test.YtgimohchocjgcaaVFV
import Derived.Test.YtgimohchocjgcaaVWA1
set_option linter.unusedVariables false
set_option linter.unusedSimpArgs false
namespace Go.Proofs.Ytgimohchocjgcaa.V
section
def byt (a : List UInt64) (m : Nat) : UInt8 := UInt8.ofNat (za6 (a.getD (m / 8) 0) (8 * (m % 8))).toNat
theorem zgn {a : List UInt64} {m : Nat} (h : 8 * a.length <= m) : byt a m = 0 := by
  unfold byt
  rw [zcn (by omega)]
  have : (za6 0 (8 * (m % 8))).toNat = 0 := by rw [ze1]; simp
  rw [this]; rfl
def Fits (a : List UInt64) (n : Nat) : Prop := ∀ m, n <= m -> byt a m = 0
def zdz (a : List UInt64) (n : Nat) (out : List UInt8) (j : Nat) : Prop := out.length = n /\ ∀ m, m < n -> out.getD (n - 1 - m) 0 = if m < j then byt a m else 0
theorem zix {a : List UInt64} {n j : Nat} {out : List UInt8} (h : zdz a n out j) (hj : j < n) : zdz a n (setL out (n - 1 - j) (byt a j)) (j + 1) := by
  obtain ⟨h1, h2⟩ := h
  refine ⟨by rw [zaB]; exact h1, fun m hm => ?_⟩
  rw [zbg]
  by_cases e : m = j
  . subst e
    rw [if_pos ⟨rfl, by omega⟩, if_pos (by omega)]
  . rw [if_neg (by omega), h2 m hm]
    by_cases e2 : m < j
    . rw [if_pos e2, if_pos (by omega)]
    . rw [if_neg e2, if_neg (by omega)]
theorem ziy {a : List UInt64} {n j k : Nat} {out : List UInt8} (h : zdz a n out j) (hk : ∀ m, j <= m -> m < k -> m < n -> byt a m = 0) (hjk : j <= k) : zdz a n out k := by
  obtain ⟨h1, h2⟩ := h
  refine ⟨h1, fun m hm => ?_⟩
  rw [h2 m hm]
  by_cases e : m < j
  . rw [if_pos e, if_pos (by omega)]
  . rw [if_neg e]
    by_cases e2 : m < k
    . rw [if_pos e2, hk m (by omega) e2 hm]
    . rw [if_neg e2]
theorem zk0 {a : List UInt64} {n : Nat} {o1 o2 : List UInt8} (h1 : zdz a n o1 n) (h2 : zdz a n o2 n) : o1 = o2 := by
  apply List.ext_getElem (by rw [h1.1, h2.1])
  intro i hi1 hi2
  have hn : i < n := by rw [← h1.1]; exact hi1
  have e1 := h1.2 (n - 1 - i) (by omega)
  have e2 := h2.2 (n - 1 - i) (by omega)
  rw [show n - 1 - (n - 1 - i) = i by omega] at e1 e2
  rw [← e2, List.getD_eq_getElem?_getD, List.getD_eq_getElem?_getD, List.getElem?_eq_getElem hi1, List.getElem?_eq_getElem hi2] at e1
  exact e1
theorem ziz (a : List UInt64) (n : Nat) : zdz a n (List.replicate n 0) 0 := by
  refine ⟨by simp, fun m hm => ?_⟩
  rw [List.getD_eq_getElem?_getD, List.getElem?_replicate]
  split <;> simp
theorem zxX (x : UInt8) : x.toNat < 256 := x.toNat_lt
theorem zuy (N : Nat) (A : Int -> Int -> Int -> List UInt8 -> List UInt64 -> Option (List UInt8 × Int × Unit)) (a : List UInt64) (n1 i : Nat) (hn1 : n1 <= 192) (hi : i < 1000) : ∀ n k : Nat, ∀ out : List UInt8, k <= 8 -> 8 - k < n -> zdz a n1 out (8 * i + k) -> (∀ m, n1 <= m -> m < 8 * i + k -> byt a m = 0) ->
    ((∃ m, n1 <= m /\ byt a m ≠ 0) /\ zkT N A n (n1 : Int) (i : Int) (a.getD i 0) (a.length : Int) (i : Int) (k : Int) out a = some ([], 8, ())) \/
    (∃ out', zdz a n1 out' (8 * (i + 1)) /\ (∀ m, n1 <= m -> m < 8 * (i + 1) -> byt a m = 0) /\ zkT N A n (n1 : Int) (i : Int) (a.getD i 0) (a.length : Int) (i : Int) (k : Int) out a = A (n1 : Int) (a.length : Int) ((i + 1 : Nat) : Int) out' a) := by
  intro n
  induction n with
  | zero => intro k out _ h; omega
  | succ n ih =>
    intro k out hk hn hput hz
    rw [zoX]
    unfold zrK
    by_cases h : k < 8
    . have e1 : wr (wr (wr ((n1 : Int) - 1) - wr (8 * (i : Int))) - (k : Int)) = (n1 : Int) - 1 - 8 * (i : Int) - (k : Int) := by
        rw [zbD (x := (n1 : Int) - 1) (by omega) (by omega), zbD (x := 8 * (i : Int)) (by omega) (by omega), zbD (x := (n1 : Int) - 1 - 8 * (i : Int)) (by omega) (by omega), zbD (by omega) (by omega)]
      have e2 : wr (8 * (k : Int)) = ((8 * k : Nat) : Int) := by rw [zbD (by omega) (by omega)]; omega
      have e3 : UInt8.ofNat (UInt64.toNat (za6 (a.getD i 0) (UInt64.toNat (u64I ((8 * k : Nat) : Int))))) = byt a (8 * i + k) := by
        unfold byt
        rw [zjL (by omega), show (8 * i + k) / 8 = i by omega, show (8 * i + k) % 8 = k by omega]
      rw [zae (show (k : Int) < 8 by omega), cond_true, e1, e2, e3, zaD (by omega)]
      by_cases hb : 8 * i + k < n1
      . rw [zad (by omega), cond_false, zbp (show (0 : Int) <= (n1 : Int) - 1 - 8 * (i : Int) - (k : Int) by omega), cond_true, zae (by have := hput.1; omega), zbE]
        have e4 : Int.toNat ((n1 : Int) - 1 - 8 * (i : Int) - (k : Int)) = n1 - 1 - (8 * i + k) := by omega
        rw [e4]
        exact ih (k + 1) _ h (by omega) (zix hput hb) (fun m h1 h2 => by
          by_cases e : m < 8 * i + k
          . exact hz m h1 e
          . omega)
      . rw [zae (by omega), cond_true]
        by_cases hc : byt a (8 * i + k) = 0
        . rw [hc]
          simp only [beq_self_eq_true, Bool.not_true, cond_false]
          rw [zaG (show ¬ (0 : Int) <= (n1 : Int) - 1 - 8 * (i : Int) - (k : Int) by omega), cond_false]
          exact ih (k + 1) _ h (by omega) (ziy hput (fun m _ _ h3 => by omega) (by omega)) (fun m h1 h2 => by
            by_cases e : m = 8 * i + k
            . rw [e]; exact hc
            . exact hz m h1 (by omega))
        . rw [beq_eq_false_iff_ne.2 hc]
          simp only [Bool.not_false, cond_true]
          exact .inl ⟨⟨8 * i + k, by omega, hc⟩, trivial⟩
    . obtain rfl : k = 8 := by omega
      rw [zad (by omega), cond_false, zaD (by omega)]
      exact .inr ⟨out, hput, hz, rfl⟩
theorem zuz (N : Nat) (a : List UInt64) (n1 : Nat) (hn1 : n1 <= 192) (ha : a.length < 1000) (hN : 10 < N) : ∀ n i : Nat, ∀ out : List UInt8, i <= a.length -> a.length - i < n -> zdz a n1 out (8 * i) -> (∀ m, n1 <= m -> m < 8 * i -> byt a m = 0) ->
    ((¬ Fits a n1) /\ zhb N n (n1 : Int) (a.length : Int) (i : Int) out a = some ([], 8, ())) \/ (Fits a n1 /\ ∃ out', zdz a n1 out' n1 /\ zhb N n (n1 : Int) (a.length : Int) (i : Int) out a = some (out', 0, ())) := by
  intro n
  induction n with
  | zero => intro i out _ h; omega
  | succ n ih =>
    intro i out hi hn hput hz
    rw [zoY]
    unfold zrL
    rw [za4]
    by_cases h : i < a.length
    . rw [zax h, cond_true, zaq, zbE]
      simp only [Int.toNat_natCast]
      rcases zuy N (zhb N n) a n1 i hn1 (by omega) N 0 out (by omega) (by omega) hput hz with ⟨⟨m, h1, h2⟩, h3⟩ | ⟨out', h1, h2, h3⟩
      . exact .inl ⟨fun hf => h2 (hf m h1), h3⟩
      . have h3' : zkT N (zhb N n) N (n1 : Int) (i : Int) (a.getD i 0) (a.length : Int) (i : Int) 0 out a = zhb N n (n1 : Int) (a.length : Int) ((i + 1 : Nat) : Int) out' a := h3
        rw [h3']
        exact ih (i + 1) out' h (by omega) h1 h2
    . rw [zby h, cond_false]
      refine .inr ⟨fun m hm => ?_, out, ?_, rfl⟩
      . by_cases e : m < 8 * i
        . exact hz m hm e
        . exact zgn (by omega)
      . by_cases e : 8 * i <= n1
        . exact ziy hput (fun m h1 _ _ => zgn (by omega)) e
        . refine ⟨hput.1, fun m hm => ?_⟩
          rw [hput.2 m hm, if_pos (by omega), if_pos hm]
theorem zAS {N : Nat} {a : List UInt64} (ha : a.length < 900) (hN : 2000 <= N) (n : Nat) (hn : n <= 192) : q57 N a (n : Int) = zhb N N (n : Int) ((cutL a).length : Int) ((0 : Nat) : Int) (List.replicate n 0) (cutL a) := by
  unfold q57
  rw [zr1 (by omega) (by omega)]
  simp only [Option.bind_some]
  have := ze0 a
  rw [zjz, cond_false, zad (by omega), cond_false, zaq, zaI rfl, zdw (by simp only [Bool.true_and, Int.toNat_natCast]; exact zay (by omega))]
  simp only [Int.toNat_natCast]
  rfl
theorem zAT {N : Nat} {a : List UInt64} (ha : a.length < 900) (hN : 2000 <= N) (n : Nat) (hn : n <= 192) : (¬ Fits (cutL a) n /\ q57 N a (n : Int) = some ([], 8, ())) \/ (Fits (cutL a) n /\ ∃ out, zdz (cutL a) n out n /\ q57 N a (n : Int) = some (out, 0, ())) := by
  have hp : zdz (cutL a) n (List.replicate n 0) (8 * 0) := by rw [Nat.mul_zero]; exact ziz _ _
  have := ze0 a
  have h := zuz N (cutL a) n hn (by omega) (by omega) N 0 (List.replicate n 0) (Nat.zero_le _) (by omega) hp (fun m _ h => by omega)
  have e := zAS ha hN n hn
  rcases h with ⟨h1, h2⟩ | ⟨h1, o, h2, h3⟩
  . exact .inl ⟨h1, e.trans h2⟩
  . exact .inr ⟨h1, o, h2, e.trans h3⟩
theorem zmT (N : Nat) (A : Int -> Int -> List UInt64 -> List UInt8 -> Option (List UInt8 × Int × Unit)) (a : List UInt64) (n1 i : Nat) (hn1 : n1 <= 192) (out : List UInt8) (h : i < n1) (hl : out.length = n1) :
    zkU N A (n1 : Int) (i : Int) a out = A (n1 : Int) ((i + 1 : Nat) : Int) a (setL out (n1 - 1 - i) (byt a i)) := by
  unfold zkU
  have e1 : wr (Int.tdiv (i : Int) 8) = ((i / 8 : Nat) : Int) := by
    rw [show (8 : Int) = ((8 : Nat) : Int) from rfl, ze3, zbD (by omega) (by omega)]
  have e2 : wr (8 * Int.tmod (i : Int) 8) = ((8 * (i % 8) : Nat) : Int) := by
    rw [show Int.tmod (i : Int) 8 = ((i % 8 : Nat) : Int) from rfl, zbD (by omega) (by omega)]; omega
  have e3 : wr (wr ((n1 : Int) - 1) - (i : Int)) = ((n1 - 1 - i : Nat) : Int) := by
    rw [zbD (x := (n1 : Int) - 1) (by omega) (by omega), zbD (by omega) (by omega)]; omega
  have e5 : ltI ((8 * (i % 8) : Nat) : Int) 18446744073709551616 = true := zae (by omega)
  have e6 : wr ((i : Int) + 1) = ((i + 1 : Nat) : Int) := zaD (by omega)
  have e7 : ltI ((n1 - 1 - i : Nat) : Int) (out.length : Int) = true := zae (by omega)
  have e8 : ltI (i : Int) (n1 : Int) = true := zae (by omega)
  have e4 : UInt8.ofNat (UInt64.toNat (za6 (a.getD (i / 8) 0) (UInt64.toNat (UInt64.ofNat (8 * (i % 8)))))) = byt a i := by
    unfold byt
    rw [UInt64.toNat_ofNat', Nat.mod_eq_of_lt (show 8 * (i % 8) < 2 ^ 64 by omega)]
  rw [e1, e2, e3, e5, e6, e7, e8, zxF]
  simp only [Option.bind_some, cond_true, zaq, Bool.and_self, zdw, Int.toNat_natCast, e4]
theorem zse (N : Nat) (a : List UInt64) (n1 : Nat) (hn1 : n1 <= 192) : ∀ n i : Nat, ∀ out : List UInt8, i <= n1 -> n1 - i < n -> zdz a n1 out i -> ∃ out', zdz a n1 out' n1 /\ zkV N n (n1 : Int) (i : Int) a out = some (out', 0, ()) := by
  intro n
  induction n with
  | zero => intro i out _ h; omega
  | succ n ih =>
    intro i out hi hn hput
    by_cases h : i < n1
    . have hs := zmT N (zkV N n) a n1 i hn1 out h hput.1
      rw [zhc, hs]
      exact ih (i + 1) _ h (by omega) (zix hput h)
    . obtain rfl : i = n1 := by omega
      rw [zhc]
      unfold zkU
      rw [za4, zby h, cond_false]
      exact ⟨out, hput, rfl⟩
theorem zuA (N : Nat) (a : List UInt64) (n1 : Nat) (hn1 : n1 <= 192) (ha : a.length < 1000) (hN : 300 < N) : ∀ n i : Nat, 8 * a.length - i < n -> i < 100000 -> n1 <= i -> (∀ m, n1 <= m -> m < i -> byt a m = 0) ->
    ((¬ Fits a n1) /\ zrO N n (n1 : Int) (i : Int) a = some ([], 8, ())) \/ (Fits a n1 /\ ∃ out', zdz a n1 out' n1 /\ zrO N n (n1 : Int) (i : Int) a = some (out', 0, ())) := by
  intro n
  induction n with
  | zero => intro i h; omega
  | succ n ih =>
    intro i hn hi hni hz
    rw [zo1]
    unfold zxx
    have e0 : wr (8 * (a.length : Int)) = ((8 * a.length : Nat) : Int) := by rw [zbD (by omega) (by omega)]; omega
    rw [e0, za4]
    by_cases h : i < 8 * a.length
    . have e1 : wr (Int.tdiv (i : Int) 8) = ((i / 8 : Nat) : Int) := by
        rw [show (8 : Int) = ((8 : Nat) : Int) from rfl, ze3, zbD (by omega) (by omega)]
      have e2 : wr (8 * Int.tmod (i : Int) 8) = ((8 * (i % 8) : Nat) : Int) := by
        rw [show Int.tmod (i : Int) 8 = ((i % 8 : Nat) : Int) from rfl, zbD (by omega) (by omega)]; omega
      rw [zax h, cond_true, e1, e2, zaq, za4, zax (by omega), zbE, zdw (zaq _), zdw (zae (by omega)), zaD (by omega)]
      simp only [Int.toNat_natCast]
      have e4 : UInt8.ofNat (UInt64.toNat (za6 (a.getD (i / 8) 0) (UInt64.toNat (UInt64.ofNat (8 * (i % 8)))))) = byt a i := by
        unfold byt
        rw [UInt64.toNat_ofNat', Nat.mod_eq_of_lt (show 8 * (i % 8) < 2 ^ 64 by omega)]
      rw [e4]
      by_cases hc : byt a i = 0
      . rw [hc]
        simp only [beq_self_eq_true, Bool.not_true, cond_false]
        refine ih (i + 1) (by omega) (by omega) (by omega) fun m h1 h2 => ?_
        by_cases e : m = i
        . rw [e]; exact hc
        . exact hz m h1 (by omega)
      . rw [beq_eq_false_iff_ne.2 hc]
        simp only [Bool.not_false, cond_true]
        exact .inl ⟨fun hf => hc (hf i hni), by first | rfl | trivial⟩
    . rw [zby h, cond_false, zaq, zaI rfl, zdw (by simp only [Bool.true_and, Int.toNat_natCast]; exact zay (by omega))]
      simp only [Int.toNat_natCast]
      obtain ⟨out', h1, h2⟩ := zse N a n1 hn1 N 0 (List.replicate n1 0) (Nat.zero_le _) (by omega) (ziz _ _)
      refine .inr ⟨fun m hm => ?_, out', h1, h2⟩
      by_cases e : m < i
      . exact hz m hm e
      . exact zgn (by omega)
theorem zAU {N : Nat} {a : List UInt64} (ha : a.length < 30) (hN : 2000 <= N) (n : Nat) (hn : n <= 192) : (¬ Fits (cutL a) n /\ q58 N a (n : Int) = some ([], 8, ())) \/ (Fits (cutL a) n /\ ∃ out, zdz (cutL a) n out n /\ q58 N a (n : Int) = some (out, 0, ())) := by
  unfold q58
  rw [zxH (by omega) (by omega)]
  simp only [Option.bind_some]
  have := ze0 a
  rw [zjz, cond_false, zad (by omega), cond_false]
  exact zuA N (cutL a) n hn (by omega) (by omega) N n (by omega) (by omega) (Nat.le_refl _) (fun m h1 h2 => by omega)
def bv : List UInt8 -> Nat
  | [] => 0
  | x :: l => x.toNat * 256 ^ l.length + bv l
theorem zxY (b : List UInt8) : bv b < 256 ^ b.length := by
  induction b with
  | nil => simp [bv]
  | cons x b ih =>
    have := zxX x
    simp only [bv, List.length_cons, Nat.pow_succ]
    have h2 : (x.toNat + 1) * 256 ^ b.length <= 256 * 256 ^ b.length := Nat.mul_le_mul_right _ (by omega)
    rw [Nat.add_mul, Nat.one_mul] at h2
    rw [Nat.mul_comm (256 ^ b.length)]
    omega
theorem zxZ (b : List UInt8) (k : Nat) (h : k < b.length) : bv (b.drop k) = (b.getD k 0).toNat * 256 ^ (b.length - 1 - k) + bv (b.drop (k + 1)) := by
  induction b generalizing k with
  | nil => simp at h
  | cons x b ih =>
    cases k with
    | zero => simp [bv]
    | succ k =>
      simp only [List.drop_succ_cons, List.getD_cons_succ, List.length_cons]
      rw [ih k (by simpa using h)]
      congr 3
      omega
theorem zx0 (b : List UInt8) (k : Nat) (h : k < b.length) : bv (b.take (k + 1)) = bv (b.take k) * 256 + (b.getD k 0).toNat := by
  induction b generalizing k with
  | nil => simp at h
  | cons x b ih =>
    cases k with
    | zero => simp [bv]
    | succ k =>
      have := ih k (by simpa using h)
      have hk : k < b.length := by simpa using h
      simp only [List.take_succ_cons, bv, List.getD_cons_succ, this, List.length_take]
      rw [Nat.min_eq_left (by omega), Nat.min_eq_left (by omega), Nat.pow_succ, ← Nat.mul_assoc, Nat.add_mul]
      omega
theorem zx1 (l : List UInt64) (i : Nat) (v : UInt64) (h : i < l.length) : lv (setL l i v) + 18446744073709551616 ^ i * (l.getD i 0).toNat = lv l + 18446744073709551616 ^ i * v.toNat := by
  induction l generalizing i with
  | nil => simp at h
  | cons x l ih =>
    cases i with
    | zero => simp [setL, lv]; omega
    | succ i =>
      have := ih i (by simpa using h)
      simp only [setL, lv, List.getD_cons_succ, Nat.pow_succ]
      generalize 18446744073709551616 ^ i = p at this ⊢
      rw [Nat.mul_comm p 18446744073709551616, Nat.mul_assoc, Nat.mul_assoc]
      omega
theorem znU (l : List UInt64) (i : Nat) : lv l / 18446744073709551616 ^ i % 18446744073709551616 = (l.getD i 0).toNat := by
  induction l generalizing i with
  | nil => simp [lv]
  | cons x l ih =>
    have hx := x.toNat_lt
    cases i with
    | zero => simp only [lv, Nat.pow_zero, Nat.div_one, List.getD_cons_zero]; omega
    | succ i =>
      rw [List.getD_cons_succ, ← ih i, Nat.pow_succ, Nat.mul_comm, ← Nat.div_div_eq_div_mul]
      congr 2
      simp only [lv]
      omega
theorem zsf (i : Nat) : (256 : Nat) ^ i = 18446744073709551616 ^ (i / 8) * 2 ^ (8 * (i % 8)) := by
  have e1 : (256 : Nat) ^ i = 2 ^ (8 * i) := by rw [Nat.pow_mul]
  have e2 : (18446744073709551616 : Nat) ^ (i / 8) = 2 ^ (64 * (i / 8)) := by rw [Nat.pow_mul]
  rw [e1, e2, ← Nat.pow_add]
  congr 1
  omega
theorem zx2 (c : UInt8) (k : Nat) (hk : k <= 7) : (zf9 (UInt64.ofNat c.toNat) (8 * k)).toNat = c.toNat * 2 ^ (8 * k) := by
  have hc := zxX c
  unfold zf9
  rw [UInt64.toNat_ofNat', UInt64.toNat_ofNat', Nat.mod_eq_of_lt (show c.toNat < 2 ^ 64 by omega)]
  refine Nat.mod_eq_of_lt ?_
  have : c.toNat * 2 ^ (8 * k) < 2 ^ 8 * 2 ^ (8 * k) := Nat.mul_lt_mul_of_pos_right (by omega) (Nat.pow_pos (by decide))
  rw [← Nat.pow_add] at this
  exact Nat.lt_of_lt_of_le this (Nat.pow_le_pow_right (by decide) (by omega))
theorem zAV (N : Nat) (b : List UInt8) (hb : b.length < 1000) (hN : 2000 <= N) : ∀ n i : Nat, ∀ out : List UInt64, i <= b.length -> b.length - i < n -> out.length = b.length / 8 + 1 -> lv out = bv (b.take i) * 256 ^ (b.length - i) ->
    ∃ s, zoZ N n b b (b.length : Int) (i : Int) out = some (s, ()) /\ Nrm s /\ lv s = bv b := by
  intro n
  induction n with
  | zero => intro i out _ h; omega
  | succ n ih =>
    intro i out hi hn hl hinv
    rw [zo0]
    unfold zrM
    rw [za4]
    by_cases h : i < b.length
    . have e3 : wr (wr ((b.length : Int) - 1) - (i : Int)) = ((b.length - 1 - i : Nat) : Int) := by
        rw [zbD (x := (b.length : Int) - 1) (by omega) (by omega), zbD (by omega) (by omega)]; omega
      have hk : b.length - i = b.length - 1 - i + 1 := by omega
      rw [hk] at hinv
      rw [zax h, cond_true, e3]
      generalize hK : b.length - 1 - i = k at *
      have e1 : wr (Int.tdiv (k : Int) 8) = ((k / 8 : Nat) : Int) := by
        rw [show (8 : Int) = ((8 : Nat) : Int) from rfl, ze3, zbD (by omega) (by omega)]
      have e2 : wr (8 * Int.tmod (k : Int) 8) = ((8 * (k % 8) : Nat) : Int) := by
        rw [show Int.tmod (k : Int) 8 = ((k % 8 : Nat) : Int) from rfl, zbD (by omega) (by omega)]; omega
      rw [e1, e2, zaq, zbE, zaq, za4, zax (show k / 8 < out.length by omega), zbE, zbE, zaD (by omega)]
      simp only [Int.toNat_natCast]
      rw [zjL (by omega)]
      have hx := zx2 (b.getD i 0) (k % 8) (by omega)
      have hc := zxX (b.getD i 0)
      generalize hC : b.getD i 0 = c at *
      have hdig := znU out (k / 8)
      have hmul : ∃ z, (out.getD (k / 8) 0).toNat = 2 ^ (8 * (k % 8) + 8) * z := by
        rw [← hdig, hinv, Nat.pow_succ, zsf k]
        have e : bv (List.take i b) * (18446744073709551616 ^ (k / 8) * 2 ^ (8 * (k % 8)) * 256) = 18446744073709551616 ^ (k / 8) * (2 ^ (8 * (k % 8) + 8) * bv (List.take i b)) := by
          rw [Nat.pow_add, show (2 : Nat) ^ 8 = 256 by decide]
          simp only [Nat.mul_assoc, Nat.mul_comm, Nat.mul_left_comm]
        rw [e, Nat.mul_div_cancel_left _ (Nat.pow_pos (by decide))]
        have e64 : (18446744073709551616 : Nat) = 2 ^ (8 * (k % 8) + 8) * 2 ^ (64 - (8 * (k % 8) + 8)) := by
          rw [← Nat.pow_add]
          have : 8 * (k % 8) + 8 + (64 - (8 * (k % 8) + 8)) = 64 := by omega
          rw [this]
        rw [e64, Nat.mul_mod_mul_left]
        exact ⟨_, rfl⟩
      obtain ⟨z, hz⟩ := hmul
      have hor : (out.getD (k / 8) 0 ||| zf9 (UInt64.ofNat c.toNat) (8 * (k % 8))).toNat = (out.getD (k / 8) 0).toNat + c.toNat * 2 ^ (8 * (k % 8)) := by
        rw [UInt64.toNat_or, hx, hz]
        rw [Nat.two_pow_add_eq_or_of_lt]
        rw [Nat.pow_add, Nat.mul_comm]
        exact Nat.mul_lt_mul_of_pos_left (by omega) (Nat.pow_pos (by decide))
      refine ih (i + 1) _ h (by omega) (by rw [zaB]; exact hl) ?_
      have hs := zx1 out (k / 8) (out.getD (k / 8) 0 ||| zf9 (UInt64.ofNat c.toNat) (8 * (k % 8))) (by omega)
      rw [hor] at hs
      rw [zx0 b i h, hC, show b.length - (i + 1) = k by omega, Nat.add_mul, Nat.mul_assoc, ← Nat.pow_succ', ← hinv, zsf k]
      generalize 18446744073709551616 ^ (k / 8) = p at hs ⊢
      generalize 2 ^ (8 * (k % 8)) = q at hs ⊢
      rw [Nat.mul_add] at hs
      rw [show c.toNat * (p * q) = p * (c.toNat * q) from Nat.mul_left_comm _ _ _]
      omega
    . obtain rfl : i = b.length := by omega
      rw [zby h, cond_false, zr1 (by omega) (by omega)]
      refine ⟨cutL out, rfl, zuu _, ?_⟩
      rw [zmI, hinv]; simp
theorem zAW {N : Nat} {b : List UInt8} (hb : b.length < 900) (hN : 2000 <= N) : ∃ s, q59 N b = some (s, ()) /\ Nrm s /\ lv s = bv b := by
  unfold q59
  have e1 : wr (wr (Int.tdiv (b.length : Int) 8) + 1) = ((b.length / 8 + 1 : Nat) : Int) := by
    rw [show wr (Int.tdiv (b.length : Int) 8) = ((b.length / 8 : Nat) : Int) by rw [show (8 : Int) = ((8 : Nat) : Int) from rfl, ze3, zbD (by omega) (by omega)], zaD (by omega)]
  rw [e1, zaq, zaI rfl, zdw (by simp only [Bool.true_and, Int.toNat_natCast]; exact zay (by omega))]
  simp only [Int.toNat_natCast]
  exact zAV N b (by omega) hN N 0 (List.replicate (b.length / 8 + 1) 0) (Nat.zero_le _) (by omega) (by simp) (by rw [zuw]; simp [bv])
end
section
theorem zmU (q s : Nat) (hs : s + 8 <= 64) : q % 2 ^ 64 / 2 ^ s % 2 ^ 8 = q / 2 ^ s % 2 ^ 8 := by
  apply Nat.eq_of_testBit_eq
  intro i
  simp only [Nat.testBit_mod_two_pow, Nat.testBit_div_two_pow]
  by_cases h : i < 8
  . simp only [h, decide_true, Bool.true_and]
    rw [show decide (i + s < 64) = true from by simp; omega]
    simp
  . simp [h]
theorem zx3 (a : List UInt64) (m : Nat) : (byt a m).toNat = lv a / 256 ^ m % 256 := by
  unfold byt
  rw [UInt8.toNat_ofNat', ze1, ← znU, zsf, ← Nat.div_div_eq_div_mul]
  have := zmU (lv a / 18446744073709551616 ^ (m / 8)) (8 * (m % 8)) (by omega)
  rw [show (2 : Nat) ^ 64 = 18446744073709551616 by decide, show (2 : Nat) ^ 8 = 256 by decide] at this
  rw [show (2 : Nat) ^ 8 = 256 by decide]
  exact this
theorem zAX {a : List UInt64} {n : Nat} {out : List UInt8} (h : zdz a n out n) : ∀ j, j <= n -> bv (out.drop (n - j)) = lv a % 256 ^ j := by
  intro j
  induction j with
  | zero => intro _; rw [Nat.sub_zero, ← h.1]; simp [bv, Nat.mod_one]
  | succ j ih =>
    intro hj
    have hd := zxZ out (n - (j + 1)) (by rw [h.1]; omega)
    rw [h.1, show n - 1 - (n - (j + 1)) = j by omega, show n - (j + 1) + 1 = n - j by omega, ih (by omega)] at hd
    have hg := h.2 j (by omega)
    rw [if_pos (by omega), show n - 1 - j = n - (j + 1) by omega] at hg
    rw [hd, hg, zx3, Nat.mod_pow_succ, Nat.mul_comm, Nat.add_comm]
end
section
theorem zx4 (a : Fr) : ∃ out, out.length = 32 /\ bv out = fv a /\ q124 2000 a = some (out, ()) /\ q125 2000 a = some (out, ()) := by
  have hl : a.l.length = 4 := rfl
  have hf : Fits (cutL a.l) 32 := fun m hm => zgn (by have := ze0 a.l; omega)
  have hq : q124 2000 a = Option.bind (q57 2000 a.l ((32 : Nat) : Int)) fun r0 => some (Prod.fst r0, ()) := rfl
  have hq2 : q125 2000 a = Option.bind (q58 2000 a.l ((32 : Nat) : Int)) fun r0 => some (Prod.fst r0, ()) := rfl
  rcases zAT (N := 2000) (a := a.l) (by omega) (Nat.le_refl _) 32 (by omega) with ⟨h, _⟩ | ⟨_, out, h1, h2⟩
  . exact absurd hf h
  rcases zAU (N := 2000) (a := a.l) (by omega) (Nat.le_refl _) 32 (by omega) with ⟨h, _⟩ | ⟨_, out2, g1, g2⟩
  . exact absurd hf h
  obtain rfl := zk0 h1 g1
  refine ⟨out, h1.1, ?_, by rw [hq, h2]; rfl, by rw [hq2, g2]; rfl⟩
  have e := zAX h1 32 (Nat.le_refl _)
  rw [Nat.sub_self, List.drop_zero, zmI, show (256 : Nat) ^ 32 = 18446744073709551616 ^ 4 from by decide, Nat.mod_eq_of_lt (show lv a.l < 18446744073709551616 ^ 4 from zAK a)] at e
  exact e
def tkF (b : List UInt8) : Fr × Int × Unit := if b.length < 32 then (⟨0, 0, 0, 0⟩, 2, ()) else if 32 < b.length then (⟨0, 0, 0, 0⟩, 8, ()) else if bv b < RR then (frN (bv b), 0, ()) else (⟨0, 0, 0, 0⟩, 4, ())
theorem zAY {b : List UInt8} (h : b.length = 32) : bv b < 18446744073709551616 ^ 4 := by
  have := zxY b
  rw [h, show (256 : Nat) ^ 32 = 18446744073709551616 ^ 4 from by decide] at this
  exact this
theorem zx5 (b : List UInt8) : q122 2000 b = some (tkF b) := by
  unfold q122 tkF
  by_cases h1 : b.length < 32
  . rw [zae (by omega), cond_true, if_pos h1]
  by_cases h2 : 32 < b.length
  . rw [zad (by omega), cond_false, zae (by omega), cond_true, if_neg h1, if_pos h2]
  have hb : b.length = 32 := by omega
  have hlt := zAY hb
  obtain ⟨s, s1, s2, s3⟩ := zAW (N := 2000) (b := b) (by omega) (Nat.le_refl _)
  have hsl : s.length <= 4 := zxC s2 (by rw [s3]; exact hlt)
  rw [zad (by omega), cond_false, zad (by omega), cond_false, if_neg h1, if_neg h2, s1]
  simp only [bsm]
  rw [zxP hsl, s3]
  simp only [bsm, zaf]
  rw [zvK (by omega), zr8 hlt]
  simp only [bsm]
  by_cases h3 : bv b < RR
  . rw [decide_eq_true h3, Bool.not_true, cond_false, if_pos h3]
  . rw [decide_eq_false h3, Bool.not_false, cond_true, if_neg h3]
end
section
def q195 (N : Nat) (at0 : Int) (w1 : List Int) : Option (Row × Unit) :=
  must (leI (↑(3 : Nat) : Int) (↑w1.length : Int)) (must (leN ((0 : Nat) + (3 : Nat)) w1.length) (Option.bind (q75 N (1 : UInt64)) fun rr0 => cond (eqI at0 (↑(0 : Nat) : Int)) (must (eqI at0 (↑(0 : Nat) : Int)) (some ((Row.mk (rr0.1) (Fr.zero) (Fr.zero) (Fr.zero) (Fr.zero) (Fr.zero) (Fr.zero) (Fr.zero) (List.getD w1 (0 : Nat) (0 : Int)) (List.getD w1 ((0 : Nat) + (1 : Nat)) (0 : Int)) (List.getD w1 ((0 : Nat) + (1 : Nat) + (1 : Nat)) (0 : Int)), ())))) (cond (eqI at0 (↑((0 : Nat) + (1 : Nat)) : Int)) (must (eqI at0 (↑((0 : Nat) + (1 : Nat)) : Int)) (some ((Row.mk (Fr.zero) (rr0.1) (Fr.zero) (Fr.zero) (Fr.zero) (Fr.zero) (Fr.zero) (Fr.zero) (List.getD w1 (0 : Nat) (0 : Int)) (List.getD w1 ((0 : Nat) + (1 : Nat)) (0 : Int)) (List.getD w1 ((0 : Nat) + (1 : Nat) + (1 : Nat)) (0 : Int)), ())))) (cond (eqI at0 (↑((0 : Nat) + (1 : Nat) + (1 : Nat)) : Int)) (must (eqI at0 (↑((0 : Nat) + (1 : Nat) + (1 : Nat)) : Int)) (some ((Row.mk (Fr.zero) (Fr.zero) (rr0.1) (Fr.zero) (Fr.zero) (Fr.zero) (Fr.zero) (Fr.zero) (List.getD w1 (0 : Nat) (0 : Int)) (List.getD w1 ((0 : Nat) + (1 : Nat)) (0 : Int)) (List.getD w1 ((0 : Nat) + (1 : Nat) + (1 : Nat)) (0 : Int)), ())))) (cond (eqI at0 (↑((0 : Nat) + (1 : Nat) + (1 : Nat) + (1 : Nat)) : Int)) (must (eqI at0 (↑((0 : Nat) + (1 : Nat) + (1 : Nat) + (1 : Nat)) : Int)) (some ((Row.mk (Fr.zero) (Fr.zero) (Fr.zero) (rr0.1) (Fr.zero) (Fr.zero) (Fr.zero) (Fr.zero) (List.getD w1 (0 : Nat) (0 : Int)) (List.getD w1 ((0 : Nat) + (1 : Nat)) (0 : Int)) (List.getD w1 ((0 : Nat) + (1 : Nat) + (1 : Nat)) (0 : Int)), ())))) (cond (eqI at0 (↑((0 : Nat) + (1 : Nat) + (1 : Nat) + (1 : Nat) + (1 : Nat)) : Int)) (must (eqI at0 (↑((0 : Nat) + (1 : Nat) + (1 : Nat) + (1 : Nat) + (1 : Nat)) : Int)) (some ((Row.mk (Fr.zero) (Fr.zero) (Fr.zero) (Fr.zero) (rr0.1) (Fr.zero) (Fr.zero) (Fr.zero) (List.getD w1 (0 : Nat) (0 : Int)) (List.getD w1 ((0 : Nat) + (1 : Nat)) (0 : Int)) (List.getD w1 ((0 : Nat) + (1 : Nat) + (1 : Nat)) (0 : Int)), ())))) (cond (eqI at0 (↑((0 : Nat) + (1 : Nat) + (1 : Nat) + (1 : Nat) + (1 : Nat) + (1 : Nat)) : Int)) (must (eqI at0 (↑((0 : Nat) + (1 : Nat) + (1 : Nat) + (1 : Nat) + (1 : Nat) + (1 : Nat)) : Int)) (some ((Row.mk (Fr.zero) (Fr.zero) (Fr.zero) (Fr.zero) (Fr.zero) (rr0.1) (Fr.zero) (Fr.zero) (List.getD w1 (0 : Nat) (0 : Int)) (List.getD w1 ((0 : Nat) + (1 : Nat)) (0 : Int)) (List.getD w1 ((0 : Nat) + (1 : Nat) + (1 : Nat)) (0 : Int)), ())))) (cond (eqI at0 (↑((0 : Nat) + (1 : Nat) + (1 : Nat) + (1 : Nat) + (1 : Nat) + (1 : Nat) + (1 : Nat)) : Int)) (must (eqI at0 (↑((0 : Nat) + (1 : Nat) + (1 : Nat) + (1 : Nat) + (1 : Nat) + (1 : Nat) + (1 : Nat)) : Int)) (some ((Row.mk (Fr.zero) (Fr.zero) (Fr.zero) (Fr.zero) (Fr.zero) (Fr.zero) (rr0.1) (Fr.zero) (List.getD w1 (0 : Nat) (0 : Int)) (List.getD w1 ((0 : Nat) + (1 : Nat)) (0 : Int)) (List.getD w1 ((0 : Nat) + (1 : Nat) + (1 : Nat)) (0 : Int)), ())))) (must (eqI at0 (↑((0 : Nat) + (1 : Nat) + (1 : Nat) + (1 : Nat) + (1 : Nat) + (1 : Nat) + (1 : Nat) + (1 : Nat)) : Int)) (must (eqI at0 (↑((0 : Nat) + (1 : Nat) + (1 : Nat) + (1 : Nat) + (1 : Nat) + (1 : Nat) + (1 : Nat) + (1 : Nat)) : Int)) (some ((Row.mk (Fr.zero) (Fr.zero) (Fr.zero) (Fr.zero) (Fr.zero) (Fr.zero) (Fr.zero) (rr0.1) (List.getD w1 (0 : Nat) (0 : Int)) (List.getD w1 ((0 : Nat) + (1 : Nat)) (0 : Int)) (List.getD w1 ((0 : Nat) + (1 : Nat) + (1 : Nat)) (0 : Int)), ())))))))))))))
theorem zAZ : p195 = q195 := by
  (repeat (apply funext; intro _))
  simp only [p195, q195, zCT, zaf, zah, zai, zag]
def q108 (N : Nat) (s0 : Stp) : Option (List Row × Int × Unit) :=
  cond ((eqI s0.kind (1 : Int))) (cond ((eqI s0.kind (1 : Int))) (some (([], (0 : Int), ()))) (cond ((eqI s0.kind (2 : Int))) (some (([Row.mk (s0.q0) (s0.q1) (s0.q2) (s0.q3) (s0.q4) (Fr.zero) (Fr.zero) (Fr.zero) (mxI s0.v0 (-1 : Int)) (mxI s0.v1 (-1 : Int)) (mxI s0.v2 (-1 : Int))], (0 : Int), ()))) (cond ((eqI s0.kind (3 : Int))) (Option.bind (q195 N (5 : Int) ([Stp.v0 s0, (-1 : Int), (-1 : Int)])) fun rr7 => some (([rr7.1], (0 : Int), ()))) (cond ((eqI s0.kind (4 : Int))) (Option.bind (q195 N (6 : Int) ([Stp.v0 s0, (-1 : Int), Stp.v2 s0])) fun rr6 => some (([rr6.1], (0 : Int), ()))) (cond ((eqI s0.kind (5 : Int))) (Option.bind (q195 N (7 : Int) ([Stp.v0 s0, Stp.v1 s0, (-1 : Int)])) fun rr5 => some (([rr5.1, Row.mk (Fr.zero) (Fr.zero) (Fr.zero) (Fr.zero) (Fr.zero) (Fr.zero) (Fr.zero) (Fr.zero) s0.v2 (-1 : Int) (-1 : Int)], (0 : Int), ()))) (cond ((eqI s0.kind (7 : Int))) (Option.bind (q195 N (1 : Int) ([Stp.v0 s0, (-1 : Int), (-1 : Int)])) fun rr4 => some (([rr4.1], (0 : Int), ()))) (some (([], (11 : Int), ()))))))))) (cond ((eqI s0.kind (6 : Int))) (some (([], (0 : Int), ()))) (cond ((eqI s0.kind (2 : Int))) (some (([Row.mk (s0.q0) (s0.q1) (s0.q2) (s0.q3) (s0.q4) (Fr.zero) (Fr.zero) (Fr.zero) (mxI s0.v0 (-1 : Int)) (mxI s0.v1 (-1 : Int)) (mxI s0.v2 (-1 : Int))], (0 : Int), ()))) (cond ((eqI s0.kind (3 : Int))) (Option.bind (q195 N (5 : Int) ([Stp.v0 s0, (-1 : Int), (-1 : Int)])) fun rr3 => some (([rr3.1], (0 : Int), ()))) (cond ((eqI s0.kind (4 : Int))) (Option.bind (q195 N (6 : Int) ([Stp.v0 s0, (-1 : Int), Stp.v2 s0])) fun rr2 => some (([rr2.1], (0 : Int), ()))) (cond ((eqI s0.kind (5 : Int))) (Option.bind (q195 N (7 : Int) ([Stp.v0 s0, Stp.v1 s0, (-1 : Int)])) fun rr1 => some (([rr1.1, Row.mk (Fr.zero) (Fr.zero) (Fr.zero) (Fr.zero) (Fr.zero) (Fr.zero) (Fr.zero) (Fr.zero) s0.v2 (-1 : Int) (-1 : Int)], (0 : Int), ()))) (cond ((eqI s0.kind (7 : Int))) (Option.bind (q195 N (1 : Int) ([Stp.v0 s0, (-1 : Int), (-1 : Int)])) fun rr0 => some (([rr0.1], (0 : Int), ()))) (some (([], (11 : Int), ())))))))))
theorem zA0 : p108 = q108 := by
  (repeat (apply funext; intro _))
  simp only [p108, q108, hide_eq, zAZ, zaf, zah, zai, zag]
end
section
def Sc (x : Fr) : Prop := fv x < RR
def fmul (x y : Fr) : Fr := frN (fv x * fv y % RR)
def fadd (x y : Fr) : Fr := frN ((fv x + fv y) % RR)
theorem zaF : Sc Fr.zero := by unfold Sc; decide +kernel
theorem mulR {N : Nat} (hN : 10 < N) {a b : Fr} (hb : Sc b) : q94 N a b = some (fmul a b, ()) := zsb hN hb
theorem addR {N : Nat} (hN : 10 < N) {a b : Fr} (ha : Sc a) (hb : Sc b) : q81 N a b = some (fadd a b, ()) := zAM hN ha hb
end
section
def nm (L x : Nat) : Fr := fmul (frN (7 ^ (x / 2 ^ L) % RR)) (frN (zCZ L ^ (x % 2 ^ L) % RR))
def pre (l : List Fr) : Nat -> Nat
  | 0 => 1
  | i + 1 => pre l i * fv (l.getD i Fr.zero)
end
section
def ziA (N : Nat) (A_2 : (List Row) -> Int -> Int -> Option (Bool × Unit)) (A_5 : (List Row) -> Int -> Int -> (List Fr) -> Int -> Option (Bool × Unit)) (t8 : List Row) (t9 t10 : Int) (t15 : List Fr) (t16 : Int) : Option (Bool × Unit) :=
  cond ((ltI t16 (8 : Int))) (must (leI (0 : Int) t16 && (ltI t16 (↑(8 : Nat) : Int) && ltI t16 (↑t15.length : Int))) (Option.bind (q79 N ((List.getD t15 t16.toNat (Fr.zero)))) fun r0 => cond (!r0.1) (some ((false, ()))) (A_5 t8 t9 t10 t15 ((wr (t16 + (1 : Int))))))) (A_2 t8 t9 ((wr (t10 + (1 : Int)))))
theorem zuB : zq2 = ziA := by
  (repeat (apply funext; intro _))
  simp only [zq2, ziA, hide_eq, zAz, zaf, zah, zai, zag]
def ze4 (N : Nat) (A_2 : (List Row) -> Int -> Int -> Option (Bool × Unit)) (n : Nat) (t8 : List Row) (t9 t10 : Int) (t15 : List Fr) (t16 : Int) : Option (Bool × Unit) :=
  zar (fun A x => ziA N A_2 (fun t8 t9 t10 t15 t16 => A ((t8, (t9, (t10, (t15, (t16, ()))))), ())) x.1.1 x.1.2.1 x.1.2.2.1 x.1.2.2.2.1 x.1.2.2.2.2.1) n ((t8, (t9, (t10, (t15, (t16, ()))))), ())
theorem zuC : zq3 = ze4 := by
  (repeat (apply funext; intro _))
  simp only [zq3, ze4, zuB, zaf, zah, zai, zag]
theorem zhl (N : Nat) (A_2 : (List Row) -> Int -> Int -> Option (Bool × Unit)) (n : Nat) (t8 : List Row) (t9 t10 : Int) (t15 : List Fr) (t16 : Int) : ze4 N A_2 (n + 1) t8 t9 t10 t15 t16 = ziA N A_2 (ze4 N A_2 n) t8 t9 t10 t15 t16 := rfl
def ziB (N : Nat) (A_2 : (List Row) -> Int -> Int -> Option (Bool × Unit)) (t8 : List Row) (t9 t10 : Int) : Option (Bool × Unit) :=
  cond ((ltI t10 t9)) (must (leI (0 : Int) t10 && ltI t10 (↑t8.length : Int)) (ze4 N A_2 N t8 t9 t10 ([(Row.q0 (List.getD t8 t10.toNat zrow)), (Row.q1 (List.getD t8 t10.toNat zrow)), (Row.q2 (List.getD t8 t10.toNat zrow)), (Row.q3 (List.getD t8 t10.toNat zrow)), (Row.q4 (List.getD t8 t10.toNat zrow)), (Row.q5 (List.getD t8 t10.toNat zrow)), (Row.q6 (List.getD t8 t10.toNat zrow)), (Row.q7 (List.getD t8 t10.toNat zrow))]) (0 : Int))) (some ((true, ())))
theorem zuD : zq4 = ziB := by
  (repeat (apply funext; intro _))
  simp only [zq4, ziB, hide_eq, zuC, zaf, zah, zai, zag]
def ziC (N n : Nat) (t8 : List Row) (t9 t10 : Int) : Option (Bool × Unit) :=
  zar (fun A x => ziB N (fun t8 t9 t10 => A ((t8, (t9, (t10, ()))), ())) x.1.1 x.1.2.1 x.1.2.2.1) n ((t8, (t9, (t10, ()))), ())
theorem zuE : zq5 = ziC := by
  (repeat (apply funext; intro _))
  simp only [zq5, ziC, zuD, zaf, zah, zai, zag]
theorem zhm (N n : Nat) (t8 : List Row) (t9 t10 : Int) : ziC N (n + 1) t8 t9 t10 = ziB N (ziC N n) t8 t9 t10 := rfl
def q200 (N : Nat) (c0 v1 : Int) (v2 : List Row) (v3 : List Pr) : Option (Bool × Unit) :=
  ziC N N v2 ((↑v2.length : Int)) (0 : Int)
theorem zA1 : p200 = q200 := by
  (repeat (apply funext; intro _))
  simp only [p200, q200, zuE, zaf, zah, zai, zag]
def zfB (N : Nat) (A_12 : (List Pr) -> Int -> Int -> Int -> Int -> (List Row) -> (List Pr) -> Option (Bool × Unit)) (t28 : List Pr) (t29 t30 ob0_0 ob0_1 : Int) (ob0_2 : List Row) (ob0_3 : List Pr) : Option (Bool × Unit) :=
  cond ((ltI t30 t29)) (must (leI (0 : Int) t30 && ltI t30 (↑t28.length : Int)) (cond ((ltI (mnI (Pr.x (List.getD t28 t30.toNat (Pr.mk (0 : Int) (0 : Int)))) (Pr.y (List.getD t28 t30.toNat (Pr.mk (0 : Int) (0 : Int))))) (0 : Int))) (some ((false, ()))) (cond ((leI ob0_1 (mxI (Pr.x (List.getD t28 t30.toNat (Pr.mk (0 : Int) (0 : Int)))) (Pr.y (List.getD t28 t30.toNat (Pr.mk (0 : Int) (0 : Int))))))) (some ((false, ()))) (A_12 t28 t29 ((wr (t30 + (1 : Int)))) ob0_0 ob0_1 ob0_2 ob0_3)))) (some ((true, ())))
theorem zsg : zmr = zfB := by
  (repeat (apply funext; intro _))
  simp only [zmr, zfB, hide_eq, zaf, zah, zai, zag]
def zel (N n : Nat) (t28 : List Pr) (t29 t30 ob0_0 ob0_1 : Int) (ob0_2 : List Row) (ob0_3 : List Pr) : Option (Bool × Unit) :=
  zar (fun A x => zfB N (fun t28 t29 t30 ob0_0 ob0_1 ob0_2 ob0_3 => A (((), (t28, (t29, (t30, ())))), ((ob0_0, (ob0_1, (ob0_2, (ob0_3, ())))), ()))) x.1.2.1 x.1.2.2.1 x.1.2.2.2.1 x.2.1.1 x.2.1.2.1 x.2.1.2.2.1 x.2.1.2.2.2.1) n (((), (t28, (t29, (t30, ())))), ((ob0_0, (ob0_1, (ob0_2, (ob0_3, ())))), ()))
theorem zsh : zms = zel := by
  (repeat (apply funext; intro _))
  simp only [zms, zel, zsg, zaf, zah, zai, zag]
theorem zf2 (N n : Nat) (t28 : List Pr) (t29 t30 ob0_0 ob0_1 : Int) (ob0_2 : List Row) (ob0_3 : List Pr) : zel N (n + 1) t28 t29 t30 ob0_0 ob0_1 ob0_2 ob0_3 = zfB N (zel N n) t28 t29 t30 ob0_0 ob0_1 ob0_2 ob0_3 := rfl
def ziD (N : Nat) (A_2 : (List Row) -> Int -> Int -> Int -> Int -> (List Row) -> (List Pr) -> Option (Bool × Unit)) (A_5 : (List Row) -> Int -> Int -> (List Int) -> Int -> Int -> Int -> (List Row) -> (List Pr) -> Option (Bool × Unit)) (t10 : List Row) (t11 t12 : Int) (t17 : List Int) (t18 ob0_0 ob0_1 : Int) (ob0_2 : List Row) (ob0_3 : List Pr) : Option (Bool × Unit) :=
  cond ((ltI t18 (3 : Int))) (must (leI (0 : Int) t18 && (ltI t18 (↑(3 : Nat) : Int) && ltI t18 (↑t17.length : Int))) (cond ((leI ob0_1 (List.getD t17 t18.toNat (0 : Int)))) (some ((false, ()))) (A_5 t10 t11 t12 t17 ((wr (t18 + (1 : Int)))) ob0_0 ob0_1 ob0_2 ob0_3))) (A_2 t10 t11 ((wr (t12 + (1 : Int)))) ob0_0 ob0_1 ob0_2 ob0_3)
theorem zuF : zq7 = ziD := by
  (repeat (apply funext; intro _))
  simp only [zq7, ziD, hide_eq, zaf, zah, zai, zag]
def ze5 (N : Nat) (A_2 : (List Row) -> Int -> Int -> Int -> Int -> (List Row) -> (List Pr) -> Option (Bool × Unit)) (n : Nat) (t10 : List Row) (t11 t12 : Int) (t17 : List Int) (t18 ob0_0 ob0_1 : Int) (ob0_2 : List Row) (ob0_3 : List Pr) : Option (Bool × Unit) :=
  zar (fun A x => ziD N A_2 (fun t10 t11 t12 t17 t18 ob0_0 ob0_1 ob0_2 ob0_3 => A (((), (t10, (t11, (t12, (t17, (t18, ())))))), ((ob0_0, (ob0_1, (ob0_2, (ob0_3, ())))), ()))) x.1.2.1 x.1.2.2.1 x.1.2.2.2.1 x.1.2.2.2.2.1 x.1.2.2.2.2.2.1 x.2.1.1 x.2.1.2.1 x.2.1.2.2.1 x.2.1.2.2.2.1) n (((), (t10, (t11, (t12, (t17, (t18, ())))))), ((ob0_0, (ob0_1, (ob0_2, (ob0_3, ())))), ()))
theorem zuG : zq8 = ze5 := by
  (repeat (apply funext; intro _))
  simp only [zq8, ze5, zuF, zaf, zah, zai, zag]
theorem zhn (N : Nat) (A_2 : (List Row) -> Int -> Int -> Int -> Int -> (List Row) -> (List Pr) -> Option (Bool × Unit)) (n : Nat) (t10 : List Row) (t11 t12 : Int) (t17 : List Int) (t18 ob0_0 ob0_1 : Int) (ob0_2 : List Row) (ob0_3 : List Pr) : ze5 N A_2 (n + 1) t10 t11 t12 t17 t18 ob0_0 ob0_1 ob0_2 ob0_3 = ziD N A_2 (ze5 N A_2 n) t10 t11 t12 t17 t18 ob0_0 ob0_1 ob0_2 ob0_3 := rfl
def ziE (N : Nat) (A_2 : (List Row) -> Int -> Int -> Int -> Int -> (List Row) -> (List Pr) -> Option (Bool × Unit)) (t10 : List Row) (t11 t12 ob0_0 ob0_1 : Int) (ob0_2 : List Row) (ob0_3 : List Pr) : Option (Bool × Unit) :=
  cond ((ltI t12 t11)) (must (leI (0 : Int) t12 && ltI t12 (↑t10.length : Int)) (ze5 N A_2 N t10 t11 t12 ([Row.w0 (List.getD t10 t12.toNat zrow), Row.w1 (List.getD t10 t12.toNat zrow), Row.w2 (List.getD t10 t12.toNat zrow)]) (0 : Int) ob0_0 ob0_1 ob0_2 ob0_3)) (zel N N ob0_3 ((↑ob0_3.length : Int)) (0 : Int) ob0_0 ob0_1 ob0_2 ob0_3)
theorem zuH : zq9 = ziE := by
  (repeat (apply funext; intro _))
  simp only [zq9, ziE, hide_eq, zsh, zuG, zaf, zah, zai, zag]
def ziF (N n : Nat) (t10 : List Row) (t11 t12 ob0_0 ob0_1 : Int) (ob0_2 : List Row) (ob0_3 : List Pr) : Option (Bool × Unit) :=
  zar (fun A x => ziE N (fun t10 t11 t12 ob0_0 ob0_1 ob0_2 ob0_3 => A (((), (t10, (t11, (t12, ())))), ((ob0_0, (ob0_1, (ob0_2, (ob0_3, ())))), ()))) x.1.2.1 x.1.2.2.1 x.1.2.2.2.1 x.2.1.1 x.2.1.2.1 x.2.1.2.2.1 x.2.1.2.2.2.1) n (((), (t10, (t11, (t12, ())))), ((ob0_0, (ob0_1, (ob0_2, (ob0_3, ())))), ()))
theorem zuI : zra = ziF := by
  (repeat (apply funext; intro _))
  simp only [zra, ziF, zuH, zaf, zah, zai, zag]
theorem zho (N n : Nat) (t10 : List Row) (t11 t12 ob0_0 ob0_1 : Int) (ob0_2 : List Row) (ob0_3 : List Pr) : ziF N (n + 1) t10 t11 t12 ob0_0 ob0_1 ob0_2 ob0_3 = ziE N (ziF N n) t10 t11 t12 ob0_0 ob0_1 ob0_2 ob0_3 := rfl
def q201 (N : Nat) (c0 v1 : Int) (v2 : List Row) (v3 : List Pr) : Option (Bool × Unit) :=
  ziF N N v2 ((↑v2.length : Int)) (0 : Int) c0 v1 v2 v3
theorem zA2 : p201 = q201 := by
  (repeat (apply funext; intro _))
  simp only [p201, q201, zuI, zaf, zah, zai, zag]
def q220 (N : Nat) (r0 : Row) : Option (Bool × Unit) :=
  Option.bind (q108 N (Stp.mk (7 : Int) r0.w0 (0 : Int) (0 : Int) (Fr.zero) (Fr.zero) (Fr.zero) (Fr.zero) (Fr.zero))) fun rr0 => cond ((leI (0 : Int) r0.w0)) (must (ltI (0 : Int) (↑rr0.1.length : Int)) (some (((zaP r0 (List.getD rr0.1 (0 : Nat) zrow)), ())))) (some ((false, ())))
theorem zA3 : p220 = q220 := by
  (repeat (apply funext; intro _))
  simp only [p220, q220, hide_eq, zA0, zaf, zah, zai, zag]
def ziG (N : Nat) (A_2 : (List Row) -> Int -> Int -> Int -> Int -> (List Row) -> (List Pr) -> Option (Bool × Unit)) (t6 : List Row) (t7 t8 ob0_0 ob0_1 : Int) (ob0_2 : List Row) (ob0_3 : List Pr) : Option (Bool × Unit) :=
  cond ((ltI t8 t7)) (must (leI (0 : Int) t8 && ltI t8 (↑t6.length : Int)) (cond ((ltI t8 ob0_0)) (Option.bind (q220 N (Row.mk ((Row.q0 (List.getD t6 t8.toNat zrow))) ((Row.q1 (List.getD t6 t8.toNat zrow))) ((Row.q2 (List.getD t6 t8.toNat zrow))) ((Row.q3 (List.getD t6 t8.toNat zrow))) ((Row.q4 (List.getD t6 t8.toNat zrow))) ((Row.q5 (List.getD t6 t8.toNat zrow))) ((Row.q6 (List.getD t6 t8.toNat zrow))) ((Row.q7 (List.getD t6 t8.toNat zrow))) (Row.w0 (List.getD t6 t8.toNat zrow)) (Row.w1 (List.getD t6 t8.toNat zrow)) (Row.w2 (List.getD t6 t8.toNat zrow)))) fun r0 => cond (!r0.1) (some ((false, ()))) (cond ((ltI (mnI (mnI (Row.w0 (List.getD t6 t8.toNat zrow)) (Row.w1 (List.getD t6 t8.toNat zrow))) (Row.w2 (List.getD t6 t8.toNat zrow))) (-1 : Int))) (some ((false, ()))) (A_2 t6 t7 ((wr (t8 + (1 : Int)))) ob0_0 ob0_1 ob0_2 ob0_3))) (cond ((ltI (mnI (mnI (Row.w0 (List.getD t6 t8.toNat zrow)) (Row.w1 (List.getD t6 t8.toNat zrow))) (Row.w2 (List.getD t6 t8.toNat zrow))) (-1 : Int))) (some ((false, ()))) (A_2 t6 t7 ((wr (t8 + (1 : Int)))) ob0_0 ob0_1 ob0_2 ob0_3)))) (some ((true, ())))
theorem zuJ : zrd = ziG := by
  (repeat (apply funext; intro _))
  simp only [zrd, ziG, hide_eq, zA3, zaf, zah, zai, zag]
def ziH (N n : Nat) (t6 : List Row) (t7 t8 ob0_0 ob0_1 : Int) (ob0_2 : List Row) (ob0_3 : List Pr) : Option (Bool × Unit) :=
  zar (fun A x => ziG N (fun t6 t7 t8 ob0_0 ob0_1 ob0_2 ob0_3 => A (((), (t6, (t7, (t8, ())))), ((ob0_0, (ob0_1, (ob0_2, (ob0_3, ())))), ()))) x.1.2.1 x.1.2.2.1 x.1.2.2.2.1 x.2.1.1 x.2.1.2.1 x.2.1.2.2.1 x.2.1.2.2.2.1) n (((), (t6, (t7, (t8, ())))), ((ob0_0, (ob0_1, (ob0_2, (ob0_3, ())))), ()))
theorem zuK : zre = ziH := by
  (repeat (apply funext; intro _))
  simp only [zre, ziH, zuJ, zaf, zah, zai, zag]
theorem zhp (N n : Nat) (t6 : List Row) (t7 t8 ob0_0 ob0_1 : Int) (ob0_2 : List Row) (ob0_3 : List Pr) : ziH N (n + 1) t6 t7 t8 ob0_0 ob0_1 ob0_2 ob0_3 = ziG N (ziH N n) t6 t7 t8 ob0_0 ob0_1 ob0_2 ob0_3 := rfl
def q202 (N : Nat) (c0 v1 : Int) (v2 : List Row) (v3 : List Pr) : Option (Bool × Unit) :=
  ziH N N v2 ((↑v2.length : Int)) (0 : Int) c0 v1 v2 v3
theorem zA4 : p202 = q202 := by
  (repeat (apply funext; intro _))
  simp only [p202, q202, zuK, zaf, zah, zai, zag]
def q119 (N : Nat) (c0 v1 : Int) (v2 : List Row) (v3 : List Pr) : Option (Int × Unit) :=
  cond ((ltI (8 : Int) c0)) (cond ((ltI (8 : Int) c0)) (some (((8 : Int), ()))) (cond ((ltI c0 (0 : Int))) (cond ((ltI c0 (0 : Int))) (some (((1 : Int), ()))) (Option.bind (q200 N c0 v1 v2 v3) fun r33 => cond (!r33.1) (some (((4 : Int), ()))) (Option.bind (q201 N c0 v1 v2 v3) fun r34 => cond (!r34.1) (some (((10 : Int), ()))) (Option.bind (q202 N c0 v1 v2 v3) fun r35 => cond (!r35.1) (some (((3 : Int), ()))) (some (((0 : Int), ()))))))) (cond ((ltI v1 (0 : Int))) (cond ((ltI v1 (0 : Int))) (some (((1 : Int), ()))) (Option.bind (q200 N c0 v1 v2 v3) fun r30 => cond (!r30.1) (some (((4 : Int), ()))) (Option.bind (q201 N c0 v1 v2 v3) fun r31 => cond (!r31.1) (some (((10 : Int), ()))) (Option.bind (q202 N c0 v1 v2 v3) fun r32 => cond (!r32.1) (some (((3 : Int), ()))) (some (((0 : Int), ()))))))) (cond ((ltI (↑v2.length : Int) c0)) (some (((1 : Int), ()))) (Option.bind (q200 N c0 v1 v2 v3) fun r27 => cond (!r27.1) (some (((4 : Int), ()))) (Option.bind (q201 N c0 v1 v2 v3) fun r28 => cond (!r28.1) (some (((10 : Int), ()))) (Option.bind (q202 N c0 v1 v2 v3) fun r29 => cond (!r29.1) (some (((3 : Int), ()))) (some (((0 : Int), ())))))))))) (cond ((ltI (200 : Int) v1)) (cond ((ltI (200 : Int) v1)) (some (((8 : Int), ()))) (cond ((ltI c0 (0 : Int))) (cond ((ltI c0 (0 : Int))) (some (((1 : Int), ()))) (Option.bind (q200 N c0 v1 v2 v3) fun r24 => cond (!r24.1) (some (((4 : Int), ()))) (Option.bind (q201 N c0 v1 v2 v3) fun r25 => cond (!r25.1) (some (((10 : Int), ()))) (Option.bind (q202 N c0 v1 v2 v3) fun r26 => cond (!r26.1) (some (((3 : Int), ()))) (some (((0 : Int), ()))))))) (cond ((ltI v1 (0 : Int))) (cond ((ltI v1 (0 : Int))) (some (((1 : Int), ()))) (Option.bind (q200 N c0 v1 v2 v3) fun r21 => cond (!r21.1) (some (((4 : Int), ()))) (Option.bind (q201 N c0 v1 v2 v3) fun r22 => cond (!r22.1) (some (((10 : Int), ()))) (Option.bind (q202 N c0 v1 v2 v3) fun r23 => cond (!r23.1) (some (((3 : Int), ()))) (some (((0 : Int), ()))))))) (cond ((ltI (↑v2.length : Int) c0)) (some (((1 : Int), ()))) (Option.bind (q200 N c0 v1 v2 v3) fun r18 => cond (!r18.1) (some (((4 : Int), ()))) (Option.bind (q201 N c0 v1 v2 v3) fun r19 => cond (!r19.1) (some (((10 : Int), ()))) (Option.bind (q202 N c0 v1 v2 v3) fun r20 => cond (!r20.1) (some (((3 : Int), ()))) (some (((0 : Int), ())))))))))) (cond ((ltI (64 : Int) (↑v2.length : Int))) (cond ((ltI (64 : Int) (↑v2.length : Int))) (some (((8 : Int), ()))) (cond ((ltI c0 (0 : Int))) (cond ((ltI c0 (0 : Int))) (some (((1 : Int), ()))) (Option.bind (q200 N c0 v1 v2 v3) fun r15 => cond (!r15.1) (some (((4 : Int), ()))) (Option.bind (q201 N c0 v1 v2 v3) fun r16 => cond (!r16.1) (some (((10 : Int), ()))) (Option.bind (q202 N c0 v1 v2 v3) fun r17 => cond (!r17.1) (some (((3 : Int), ()))) (some (((0 : Int), ()))))))) (cond ((ltI v1 (0 : Int))) (cond ((ltI v1 (0 : Int))) (some (((1 : Int), ()))) (Option.bind (q200 N c0 v1 v2 v3) fun r12 => cond (!r12.1) (some (((4 : Int), ()))) (Option.bind (q201 N c0 v1 v2 v3) fun r13 => cond (!r13.1) (some (((10 : Int), ()))) (Option.bind (q202 N c0 v1 v2 v3) fun r14 => cond (!r14.1) (some (((3 : Int), ()))) (some (((0 : Int), ()))))))) (cond ((ltI (↑v2.length : Int) c0)) (some (((1 : Int), ()))) (Option.bind (q200 N c0 v1 v2 v3) fun r9 => cond (!r9.1) (some (((4 : Int), ()))) (Option.bind (q201 N c0 v1 v2 v3) fun r10 => cond (!r10.1) (some (((10 : Int), ()))) (Option.bind (q202 N c0 v1 v2 v3) fun r11 => cond (!r11.1) (some (((3 : Int), ()))) (some (((0 : Int), ())))))))))) (cond ((ltI (200 : Int) (↑v3.length : Int))) (some (((8 : Int), ()))) (cond ((ltI c0 (0 : Int))) (cond ((ltI c0 (0 : Int))) (some (((1 : Int), ()))) (Option.bind (q200 N c0 v1 v2 v3) fun r6 => cond (!r6.1) (some (((4 : Int), ()))) (Option.bind (q201 N c0 v1 v2 v3) fun r7 => cond (!r7.1) (some (((10 : Int), ()))) (Option.bind (q202 N c0 v1 v2 v3) fun r8 => cond (!r8.1) (some (((3 : Int), ()))) (some (((0 : Int), ()))))))) (cond ((ltI v1 (0 : Int))) (cond ((ltI v1 (0 : Int))) (some (((1 : Int), ()))) (Option.bind (q200 N c0 v1 v2 v3) fun r3 => cond (!r3.1) (some (((4 : Int), ()))) (Option.bind (q201 N c0 v1 v2 v3) fun r4 => cond (!r4.1) (some (((10 : Int), ()))) (Option.bind (q202 N c0 v1 v2 v3) fun r5 => cond (!r5.1) (some (((3 : Int), ()))) (some (((0 : Int), ()))))))) (cond ((ltI (↑v2.length : Int) c0)) (some (((1 : Int), ()))) (Option.bind (q200 N c0 v1 v2 v3) fun r0 => cond (!r0.1) (some (((4 : Int), ()))) (Option.bind (q201 N c0 v1 v2 v3) fun r1 => cond (!r1.1) (some (((10 : Int), ()))) (Option.bind (q202 N c0 v1 v2 v3) fun r2 => cond (!r2.1) (some (((3 : Int), ()))) (some (((0 : Int), ()))))))))))))
theorem zvL : p119 = q119 := by
  (repeat (apply funext; intro _))
  simp only [p119, q119, hide_eq, zA1, zA2, zA4, zaf, zah, zai, zag]
end
section
def smI : List Int -> Nat
  | [] => 0
  | x :: l => x.toNat + smI l
inductive Alike2 (S : List Pr) : Int -> Int -> Prop
  | refl (a : Int) : Alike2 S a a
  | pair {p : Pr} : p ∈ S -> Alike2 S p.x p.y
  | symm {a b : Int} : Alike2 S a b -> Alike2 S b a
  | trans {a b c : Int} : Alike2 S a b -> Alike2 S b c -> Alike2 S a c
def zx6 (S : List Pr) (V : Nat) : Prop := ∀ p ∈ S, (0 <= p.x /\ p.x < (V : Int)) /\ 0 <= p.y /\ p.y < (V : Int)
structure GoodC (S : List Pr) (V : Nat) (l : List Int) : Prop where
  len : l.length = V
  nn : ∀ i : Nat, i < V -> 0 <= l.getD i 0
  le : ∀ i : Nat, i < V -> l.getD i 0 <= (i : Int)
  al : ∀ i : Nat, i < V -> Alike2 S (i : Int) (l.getD i 0)
end
section
def Turn (ag ag' : Bool) (l l' : List Int) : Prop := (ag' = ag /\ l' = l) \/ (ag' = true /\ smI l' < smI l)
theorem Turn.le {ag ag' : Bool} {l l' : List Int} (h : Turn ag ag' l l') : smI l' <= smI l := by
  rcases h with ⟨_, rfl⟩ | ⟨_, h⟩
  . exact Nat.le_refl _
  . omega
theorem Turn.trans {a b c : Bool} {l m k : List Int} (h1 : Turn a b l m) (h2 : Turn b c m k) : Turn a c l k := by
  rcases h2 with ⟨rfl, rfl⟩ | ⟨h, hlt⟩
  . exact h1
  . exact .inr ⟨h, by have := h1.le; omega⟩
end
end Go.Proofs.Ytgimohchocjgcaa.V
