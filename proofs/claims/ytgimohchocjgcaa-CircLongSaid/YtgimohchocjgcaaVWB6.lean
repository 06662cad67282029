import Derived.Test.YtgimohchocjgcaaVUM
import Derived.Test.YtgimohchocjgcaaVFP
import Derived.KernelRfl
import Derived.Test.YtgimohchocjgcaaVFV
import Derived.Test.YtgimohchocjgcaaVWA1
import Derived.Test.YtgimohchocjgcaaVWC1
set_option linter.unusedVariables false
set_option linter.unusedSimpArgs false
namespace Go.Proofs.Ytgimohchocjgcaa.V
section
def byt (a : List UInt64) (m : Nat) : UInt8 := UInt8.ofNat (zaY (a.getD (m / 8) 0) (8 * (m % 8))).toNat
theorem zf4 {a : List UInt64} {m : Nat} (h : 8 * a.length <= m) : byt a m = 0 := by
  unfold byt
  rw [zcc (by omega)]
  have : (zaY 0 (8 * (m % 8))).toNat = 0 := by rw [zeN]; simp
  rw [this]; rfl
def Fits (a : List UInt64) (n : Nat) : Prop := ∀ m, n <= m -> byt a m = 0
def zdq (a : List UInt64) (n : Nat) (out : List UInt8) (j : Nat) : Prop := out.length = n /\ ∀ m, m < n -> out.getD (n - 1 - m) 0 = if m < j then byt a m else 0
theorem zh3 {a : List UInt64} {n j : Nat} {out : List UInt8} (h : zdq a n out j) (hj : j < n) : zdq a n (setL out (n - 1 - j) (byt a j)) (j + 1) := by
  obtain ⟨h1, h2⟩ := h
  refine ⟨by rw [zaB]; exact h1, fun m hm => ?_⟩
  rw [zbb]
  by_cases e : m = j
  . subst e
    rw [if_pos ⟨rfl, by omega⟩, if_pos (by omega)]
  . rw [if_neg (by omega), h2 m hm]
    by_cases e2 : m < j
    . rw [if_pos e2, if_pos (by omega)]
    . rw [if_neg e2, if_neg (by omega)]
theorem zh4 {a : List UInt64} {n j k : Nat} {out : List UInt8} (h : zdq a n out j) (hk : ∀ m, j <= m -> m < k -> m < n -> byt a m = 0) (hjk : j <= k) : zdq a n out k := by
  obtain ⟨h1, h2⟩ := h
  refine ⟨h1, fun m hm => ?_⟩
  rw [h2 m hm]
  by_cases e : m < j
  . rw [if_pos e, if_pos (by omega)]
  . rw [if_neg e]
    by_cases e2 : m < k
    . rw [if_pos e2, hk m (by omega) e2 hm]
    . rw [if_neg e2]
theorem zkj {a : List UInt64} {n : Nat} {o1 o2 : List UInt8} (h1 : zdq a n o1 n) (h2 : zdq a n o2 n) : o1 = o2 := by
  apply List.ext_getElem (by rw [h1.1, h2.1])
  intro i hi1 hi2
  have hn : i < n := by rw [← h1.1]; exact hi1
  have e1 := h1.2 (n - 1 - i) (by omega)
  have e2 := h2.2 (n - 1 - i) (by omega)
  rw [show n - 1 - (n - 1 - i) = i by omega] at e1 e2
  rw [← e2, List.getD_eq_getElem?_getD, List.getD_eq_getElem?_getD, List.getElem?_eq_getElem hi1, List.getElem?_eq_getElem hi2] at e1
  exact e1
theorem zh5 (a : List UInt64) (n : Nat) : zdq a n (List.replicate n 0) 0 := by
  refine ⟨by simp, fun m hm => ?_⟩
  rw [List.getD_eq_getElem?_getD, List.getElem?_replicate]
  split <;> simp
theorem zs4 (N : Nat) (A : Int -> Int -> Int -> List UInt8 -> List UInt64 -> Option (List UInt8 × Int × Unit)) (a : List UInt64) (n1 i : Nat) (hn1 : n1 <= 192) (hi : i < 1000) : ∀ n k : Nat, ∀ out : List UInt8, k <= 8 -> 8 - k < n -> zdq a n1 out (8 * i + k) -> (∀ m, n1 <= m -> m < 8 * i + k -> byt a m = 0) ->
    ((∃ m, n1 <= m /\ byt a m ≠ 0) /\ zkd N A n (n1 : Int) (i : Int) (a.getD i 0) (a.length : Int) (i : Int) (k : Int) out a = some ([], 8, ())) \/
    (∃ out', zdq a n1 out' (8 * (i + 1)) /\ (∀ m, n1 <= m -> m < 8 * (i + 1) -> byt a m = 0) /\ zkd N A n (n1 : Int) (i : Int) (a.getD i 0) (a.length : Int) (i : Int) (k : Int) out a = A (n1 : Int) (a.length : Int) ((i + 1 : Nat) : Int) out' a) := by
  intro n
  induction n with
  | zero => intro k out _ h; omega
  | succ n ih =>
    intro k out hk hn hput hz
    rw [znZ]
    unfold zqI
    by_cases h : k < 8
    . have e1 : wr (wr (wr ((n1 : Int) - 1) - wr (8 * (i : Int))) - (k : Int)) = (n1 : Int) - 1 - 8 * (i : Int) - (k : Int) := by
        rw [zbN (x := (n1 : Int) - 1) (by omega) (by omega), zbN (x := 8 * (i : Int)) (by omega) (by omega), zbN (x := (n1 : Int) - 1 - 8 * (i : Int)) (by omega) (by omega), zbN (by omega) (by omega)]
      have e2 : wr (8 * (k : Int)) = ((8 * k : Nat) : Int) := by rw [zbN (by omega) (by omega)]; omega
      have e3 : UInt8.ofNat (UInt64.toNat (zaY (a.getD i 0) (UInt64.toNat (u64I ((8 * k : Nat) : Int))))) = byt a (8 * i + k) := by
        unfold byt
        rw [zm0 (by omega), show (8 * i + k) / 8 = i by omega, show (8 * i + k) % 8 = k by omega]
      rw [zae (show (k : Int) < 8 by omega), cond_true, e1, e2, e3, zaG (by omega)]
      by_cases hb : 8 * i + k < n1
      . rw [zad (by omega), cond_false, zcn (show (0 : Int) <= (n1 : Int) - 1 - 8 * (i : Int) - (k : Int) by omega), cond_true, zae (by have := hput.1; omega), zcf]
        have e4 : Int.toNat ((n1 : Int) - 1 - 8 * (i : Int) - (k : Int)) = n1 - 1 - (8 * i + k) := by omega
        rw [e4]
        exact ih (k + 1) _ h (by omega) (zh3 hput hb) (fun m h1 h2 => by
          by_cases e : m < 8 * i + k
          . exact hz m h1 e
          . omega)
      . rw [zae (by omega), cond_true]
        by_cases hc : byt a (8 * i + k) = 0
        . rw [hc]
          simp only [beq_self_eq_true, Bool.not_true, cond_false]
          rw [zaH (show ¬ (0 : Int) <= (n1 : Int) - 1 - 8 * (i : Int) - (k : Int) by omega), cond_false]
          exact ih (k + 1) _ h (by omega) (zh4 hput (fun m _ _ h3 => by omega) (by omega)) (fun m h1 h2 => by
            by_cases e : m = 8 * i + k
            . rw [e]; exact hc
            . exact hz m h1 (by omega))
        . rw [beq_eq_false_iff_ne.2 hc]
          simp only [Bool.not_false, cond_true]
          exact .inl ⟨⟨8 * i + k, by omega, hc⟩, trivial⟩
    . obtain rfl : k = 8 := by omega
      rw [zad (by omega), cond_false, zaG (by omega)]
      exact .inr ⟨out, hput, hz, rfl⟩
theorem zs5 (N : Nat) (a : List UInt64) (n1 : Nat) (hn1 : n1 <= 192) (ha : a.length < 1000) (hN : 10 < N) : ∀ n i : Nat, ∀ out : List UInt8, i <= a.length -> a.length - i < n -> zdq a n1 out (8 * i) -> (∀ m, n1 <= m -> m < 8 * i -> byt a m = 0) ->
    ((¬ Fits a n1) /\ zgT N n (n1 : Int) (a.length : Int) (i : Int) out a = some ([], 8, ())) \/ (Fits a n1 /\ ∃ out', zdq a n1 out' n1 /\ zgT N n (n1 : Int) (a.length : Int) (i : Int) out a = some (out', 0, ())) := by
  intro n
  induction n with
  | zero => intro i out _ h; omega
  | succ n ih =>
    intro i out hi hn hput hz
    rw [zn0]
    unfold zqJ
    rw [za7]
    by_cases h : i < a.length
    . rw [zax h, cond_true, zaw, zcf]
      simp only [Int.toNat_natCast]
      rcases zs4 N (zgT N n) a n1 i hn1 (by omega) N 0 out (by omega) (by omega) hput hz with ⟨⟨m, h1, h2⟩, h3⟩ | ⟨out', h1, h2, h3⟩
      . exact .inl ⟨fun hf => h2 (hf m h1), h3⟩
      . have h3' : zkd N (zgT N n) N (n1 : Int) (i : Int) (a.getD i 0) (a.length : Int) (i : Int) 0 out a = zgT N n (n1 : Int) (a.length : Int) ((i + 1 : Nat) : Int) out' a := h3
        rw [h3']
        exact ih (i + 1) out' h (by omega) h1 h2
    . rw [zbO h, cond_false]
      refine .inr ⟨fun m hm => ?_, out, ?_, rfl⟩
      . by_cases e : m < 8 * i
        . exact hz m hm e
        . exact zf4 (by omega)
      . by_cases e : 8 * i <= n1
        . exact zh4 hput (fun m h1 _ _ => zf4 (by omega)) e
        . refine ⟨hput.1, fun m hm => ?_⟩
          rw [hput.2 m hm, if_pos (by omega), if_pos hm]
theorem zyO {N : Nat} {a : List UInt64} (ha : a.length < 900) (hN : 2000 <= N) (n : Nat) (hn : n <= 192) : q57 N a (n : Int) = zgT N N (n : Int) ((cutL a).length : Int) ((0 : Nat) : Int) (List.replicate n 0) (cutL a) := by
  unfold q57
  rw [zvR (by omega) (by omega)]
  simp only [Option.bind_some]
  have := zf3 a
  rw [ziV, cond_false, zad (by omega), cond_false, zaw, za8 rfl, zdw (by simp only [Bool.true_and, Int.toNat_natCast]; exact zay (by omega))]
  simp only [Int.toNat_natCast]
  rfl
theorem zyP {N : Nat} {a : List UInt64} (ha : a.length < 900) (hN : 2000 <= N) (n : Nat) (hn : n <= 192) : (¬ Fits (cutL a) n /\ q57 N a (n : Int) = some ([], 8, ())) \/ (Fits (cutL a) n /\ ∃ out, zdq (cutL a) n out n /\ q57 N a (n : Int) = some (out, 0, ())) := by
  have hp : zdq (cutL a) n (List.replicate n 0) (8 * 0) := by rw [Nat.mul_zero]; exact zh5 _ _
  have := zf3 a
  have h := zs5 N (cutL a) n hn (by omega) (by omega) N 0 (List.replicate n 0) (Nat.zero_le _) (by omega) hp (fun m _ h => by omega)
  have e := zyO ha hN n hn
  rcases h with ⟨h1, h2⟩ | ⟨h1, o, h2, h3⟩
  . exact .inl ⟨h1, e.trans h2⟩
  . exact .inr ⟨h1, o, h2, e.trans h3⟩
theorem zl2 (N : Nat) (A : Int -> Int -> List UInt64 -> List UInt8 -> Option (List UInt8 × Int × Unit)) (a : List UInt64) (n1 i : Nat) (hn1 : n1 <= 192) (out : List UInt8) (h : i < n1) (hl : out.length = n1) :
    zke N A (n1 : Int) (i : Int) a out = A (n1 : Int) ((i + 1 : Nat) : Int) a (setL out (n1 - 1 - i) (byt a i)) := by
  unfold zke
  have e1 : wr (Int.tdiv (i : Int) 8) = ((i / 8 : Nat) : Int) := by
    rw [show (8 : Int) = ((8 : Nat) : Int) from rfl, zi7, zbN (by omega) (by omega)]
  have e2 : wr (8 * Int.tmod (i : Int) 8) = ((8 * (i % 8) : Nat) : Int) := by
    rw [show Int.tmod (i : Int) 8 = ((i % 8 : Nat) : Int) from rfl, zbN (by omega) (by omega)]; omega
  have e3 : wr (wr ((n1 : Int) - 1) - (i : Int)) = ((n1 - 1 - i : Nat) : Int) := by
    rw [zbN (x := (n1 : Int) - 1) (by omega) (by omega), zbN (by omega) (by omega)]; omega
  have e5 : ltI ((8 * (i % 8) : Nat) : Int) 18446744073709551616 = true := zae (by omega)
  have e6 : wr ((i : Int) + 1) = ((i + 1 : Nat) : Int) := zaG (by omega)
  have e7 : ltI ((n1 - 1 - i : Nat) : Int) (out.length : Int) = true := zae (by omega)
  have e8 : ltI (i : Int) (n1 : Int) = true := zae (by omega)
  have e4 : UInt8.ofNat (UInt64.toNat (zaY (a.getD (i / 8) 0) (UInt64.toNat (UInt64.ofNat (8 * (i % 8)))))) = byt a i := by
    unfold byt
    rw [UInt64.toNat_ofNat', Nat.mod_eq_of_lt (show 8 * (i % 8) < 2 ^ 64 by omega)]
  rw [e1, e2, e3, e5, e6, e7, e8, zvT]
  simp only [Option.bind_some, cond_true, zaw, Bool.and_self, zdw, Int.toNat_natCast, e4]
theorem zq7 (N : Nat) (a : List UInt64) (n1 : Nat) (hn1 : n1 <= 192) : ∀ n i : Nat, ∀ out : List UInt8, i <= n1 -> n1 - i < n -> zdq a n1 out i -> ∃ out', zdq a n1 out' n1 /\ zkf N n (n1 : Int) (i : Int) a out = some (out', 0, ()) := by
  intro n
  induction n with
  | zero => intro i out _ h; omega
  | succ n ih =>
    intro i out hi hn hput
    by_cases h : i < n1
    . have hs := zl2 N (zkf N n) a n1 i hn1 out h hput.1
      rw [zgU, hs]
      exact ih (i + 1) _ h (by omega) (zh3 hput h)
    . obtain rfl : i = n1 := by omega
      rw [zgU]
      unfold zke
      rw [za7, zbO h, cond_false]
      exact ⟨out, hput, rfl⟩
theorem zs6 (N : Nat) (a : List UInt64) (n1 : Nat) (hn1 : n1 <= 192) (ha : a.length < 1000) (hN : 300 < N) : ∀ n i : Nat, 8 * a.length - i < n -> i < 100000 -> n1 <= i -> (∀ m, n1 <= m -> m < i -> byt a m = 0) ->
    ((¬ Fits a n1) /\ zqL N n (n1 : Int) (i : Int) a = some ([], 8, ())) \/ (Fits a n1 /\ ∃ out', zdq a n1 out' n1 /\ zqL N n (n1 : Int) (i : Int) a = some (out', 0, ())) := by
  intro n
  induction n with
  | zero => intro i h; omega
  | succ n ih =>
    intro i hn hi hni hz
    rw [zn1]
    unfold zvK
    have e0 : wr (8 * (a.length : Int)) = ((8 * a.length : Nat) : Int) := by rw [zbN (by omega) (by omega)]; omega
    rw [e0, za7]
    by_cases h : i < 8 * a.length
    . have e1 : wr (Int.tdiv (i : Int) 8) = ((i / 8 : Nat) : Int) := by
        rw [show (8 : Int) = ((8 : Nat) : Int) from rfl, zi7, zbN (by omega) (by omega)]
      have e2 : wr (8 * Int.tmod (i : Int) 8) = ((8 * (i % 8) : Nat) : Int) := by
        rw [show Int.tmod (i : Int) 8 = ((i % 8 : Nat) : Int) from rfl, zbN (by omega) (by omega)]; omega
      rw [zax h, cond_true, e1, e2, zaw, za7, zax (by omega), zcf, zdw (zaw _), zdw (zae (by omega)), zaG (by omega)]
      simp only [Int.toNat_natCast]
      have e4 : UInt8.ofNat (UInt64.toNat (zaY (a.getD (i / 8) 0) (UInt64.toNat (UInt64.ofNat (8 * (i % 8)))))) = byt a i := by
        unfold byt
        rw [UInt64.toNat_ofNat', Nat.mod_eq_of_lt (show 8 * (i % 8) < 2 ^ 64 by omega)]
      rw [e4]
      by_cases hc : byt a i = 0
      . rw [hc]
        simp only [beq_self_eq_true, Bool.not_true, cond_false]
        refine ih (i + 1) (by omega) (by omega) (by omega) fun m h1 h2 => ?_
        by_cases e : m = i
        . rw [e]; exact hc
        . exact hz m h1 (by omega)
      . rw [beq_eq_false_iff_ne.2 hc]
        simp only [Bool.not_false, cond_true]
        exact .inl ⟨fun hf => hc (hf i hni), by first | rfl | trivial⟩
    . rw [zbO h, cond_false, zaw, za8 rfl, zdw (by simp only [Bool.true_and, Int.toNat_natCast]; exact zay (by omega))]
      simp only [Int.toNat_natCast]
      obtain ⟨out', h1, h2⟩ := zq7 N a n1 hn1 N 0 (List.replicate n1 0) (Nat.zero_le _) (by omega) (zh5 _ _)
      refine .inr ⟨fun m hm => ?_, out', h1, h2⟩
      by_cases e : m < i
      . exact hz m hm e
      . exact zf4 (by omega)
theorem zyQ {N : Nat} {a : List UInt64} (ha : a.length < 30) (hN : 2000 <= N) (n : Nat) (hn : n <= 192) : (¬ Fits (cutL a) n /\ q58 N a (n : Int) = some ([], 8, ())) \/ (Fits (cutL a) n /\ ∃ out, zdq (cutL a) n out n /\ q58 N a (n : Int) = some (out, 0, ())) := by
  unfold q58
  rw [zvV (by omega) (by omega)]
  simp only [Option.bind_some]
  have := zf3 a
  rw [ziV, cond_false, zad (by omega), cond_false]
  exact zs6 N (cutL a) n hn (by omega) (by omega) N n (by omega) (by omega) (Nat.le_refl _) (fun m h1 h2 => by omega)
def bv : List UInt8 -> Nat
  | [] => 0
  | x :: l => x.toNat * 256 ^ l.length + bv l
theorem zwa (b : List UInt8) (k : Nat) (h : k < b.length) : bv (b.drop k) = (b.getD k 0).toNat * 256 ^ (b.length - 1 - k) + bv (b.drop (k + 1)) := by
  induction b generalizing k with
  | nil => simp at h
  | cons x b ih =>
    cases k with
    | zero => simp [bv]
    | succ k =>
      simp only [List.drop_succ_cons, List.getD_cons_succ, List.length_cons]
      rw [ih k (by simpa using h)]
      congr 3
      omega
theorem zs7 (l : List UInt64) (i : Nat) : lv l / 18446744073709551616 ^ i % 18446744073709551616 = (l.getD i 0).toNat := by
  induction l generalizing i with
  | nil => simp [lv]
  | cons x l ih =>
    have hx := x.toNat_lt
    cases i with
    | zero => simp only [lv, Nat.pow_zero, Nat.div_one, List.getD_cons_zero]; omega
    | succ i =>
      rw [List.getD_cons_succ, ← ih i, Nat.pow_succ, Nat.mul_comm, ← Nat.div_div_eq_div_mul]
      congr 2
      simp only [lv]
      omega
theorem zyR (i : Nat) : (256 : Nat) ^ i = 18446744073709551616 ^ (i / 8) * 2 ^ (8 * (i % 8)) := by
  have e1 : (256 : Nat) ^ i = 2 ^ (8 * i) := by rw [Nat.pow_mul]
  have e2 : (18446744073709551616 : Nat) ^ (i / 8) = 2 ^ (64 * (i / 8)) := by rw [Nat.pow_mul]
  rw [e1, e2, ← Nat.pow_add]
  congr 1
  omega
end
section
theorem zl3 (q s : Nat) (hs : s + 8 <= 64) : q % 2 ^ 64 / 2 ^ s % 2 ^ 8 = q / 2 ^ s % 2 ^ 8 := by
  apply Nat.eq_of_testBit_eq
  intro i
  simp only [Nat.testBit_mod_two_pow, Nat.testBit_div_two_pow]
  by_cases h : i < 8
  . simp only [h, decide_true, Bool.true_and]
    rw [show decide (i + s < 64) = true from by simp; omega]
    simp
  . simp [h]
theorem zwb (a : List UInt64) (m : Nat) : (byt a m).toNat = lv a / 256 ^ m % 256 := by
  unfold byt
  rw [UInt8.toNat_ofNat', zeN, ← zs7, zyR, ← Nat.div_div_eq_div_mul]
  have := zl3 (lv a / 18446744073709551616 ^ (m / 8)) (8 * (m % 8)) (by omega)
  rw [show (2 : Nat) ^ 64 = 18446744073709551616 by decide, show (2 : Nat) ^ 8 = 256 by decide] at this
  rw [show (2 : Nat) ^ 8 = 256 by decide]
  exact this
theorem zyS {a : List UInt64} {n : Nat} {out : List UInt8} (h : zdq a n out n) : ∀ j, j <= n -> bv (out.drop (n - j)) = lv a % 256 ^ j := by
  intro j
  induction j with
  | zero => intro _; rw [Nat.sub_zero, ← h.1]; simp [bv, Nat.mod_one]
  | succ j ih =>
    intro hj
    have hd := zwa out (n - (j + 1)) (by rw [h.1]; omega)
    rw [h.1, show n - 1 - (n - (j + 1)) = j by omega, show n - (j + 1) + 1 = n - j by omega, ih (by omega)] at hd
    have hg := h.2 j (by omega)
    rw [if_pos (by omega), show n - 1 - j = n - (j + 1) by omega] at hg
    rw [hd, hg, zwb, Nat.mod_pow_succ, Nat.mul_comm, Nat.add_comm]
end
section
theorem zwc (a : Fr) : ∃ out, out.length = 32 /\ bv out = fv a /\ q124 2000 a = some (out, ()) /\ q125 2000 a = some (out, ()) := by
  have hl : a.l.length = 4 := rfl
  have hf : Fits (cutL a.l) 32 := fun m hm => zf4 (by have := zf3 a.l; omega)
  have hq : q124 2000 a = Option.bind (q57 2000 a.l ((32 : Nat) : Int)) fun r0 => some (Prod.fst r0, ()) := rfl
  have hq2 : q125 2000 a = Option.bind (q58 2000 a.l ((32 : Nat) : Int)) fun r0 => some (Prod.fst r0, ()) := rfl
  rcases zyP (N := 2000) (a := a.l) (by omega) (Nat.le_refl _) 32 (by omega) with ⟨h, _⟩ | ⟨_, out, h1, h2⟩
  . exact absurd hf h
  rcases zyQ (N := 2000) (a := a.l) (by omega) (Nat.le_refl _) 32 (by omega) with ⟨h, _⟩ | ⟨_, out2, g1, g2⟩
  . exact absurd hf h
  obtain rfl := zkj h1 g1
  refine ⟨out, h1.1, ?_, by rw [hq, h2]; rfl, by rw [hq2, g2]; rfl⟩
  have e := zyS h1 32 (Nat.le_refl _)
  rw [Nat.sub_self, List.drop_zero, zvO, show (256 : Nat) ^ 32 = 18446744073709551616 ^ 4 from by decide, Nat.mod_eq_of_lt (show lv a.l < 18446744073709551616 ^ 4 from zyE a)] at e
  exact e
end
section
def q195 (N : Nat) (at0 : Int) (w1 : List Int) : Option (Row × Unit) :=
  must (leI (↑(3 : Nat) : Int) (↑w1.length : Int)) (must (leN ((0 : Nat) + (3 : Nat)) w1.length) (Option.bind (q75 N (1 : UInt64)) fun rr0 => cond (eqI at0 (↑(0 : Nat) : Int)) (must (eqI at0 (↑(0 : Nat) : Int)) (some ((Row.mk (rr0.1) (Fr.zero) (Fr.zero) (Fr.zero) (Fr.zero) (Fr.zero) (Fr.zero) (Fr.zero) (List.getD w1 (0 : Nat) (0 : Int)) (List.getD w1 ((0 : Nat) + (1 : Nat)) (0 : Int)) (List.getD w1 ((0 : Nat) + (1 : Nat) + (1 : Nat)) (0 : Int)), ())))) (cond (eqI at0 (↑((0 : Nat) + (1 : Nat)) : Int)) (must (eqI at0 (↑((0 : Nat) + (1 : Nat)) : Int)) (some ((Row.mk (Fr.zero) (rr0.1) (Fr.zero) (Fr.zero) (Fr.zero) (Fr.zero) (Fr.zero) (Fr.zero) (List.getD w1 (0 : Nat) (0 : Int)) (List.getD w1 ((0 : Nat) + (1 : Nat)) (0 : Int)) (List.getD w1 ((0 : Nat) + (1 : Nat) + (1 : Nat)) (0 : Int)), ())))) (cond (eqI at0 (↑((0 : Nat) + (1 : Nat) + (1 : Nat)) : Int)) (must (eqI at0 (↑((0 : Nat) + (1 : Nat) + (1 : Nat)) : Int)) (some ((Row.mk (Fr.zero) (Fr.zero) (rr0.1) (Fr.zero) (Fr.zero) (Fr.zero) (Fr.zero) (Fr.zero) (List.getD w1 (0 : Nat) (0 : Int)) (List.getD w1 ((0 : Nat) + (1 : Nat)) (0 : Int)) (List.getD w1 ((0 : Nat) + (1 : Nat) + (1 : Nat)) (0 : Int)), ())))) (cond (eqI at0 (↑((0 : Nat) + (1 : Nat) + (1 : Nat) + (1 : Nat)) : Int)) (must (eqI at0 (↑((0 : Nat) + (1 : Nat) + (1 : Nat) + (1 : Nat)) : Int)) (some ((Row.mk (Fr.zero) (Fr.zero) (Fr.zero) (rr0.1) (Fr.zero) (Fr.zero) (Fr.zero) (Fr.zero) (List.getD w1 (0 : Nat) (0 : Int)) (List.getD w1 ((0 : Nat) + (1 : Nat)) (0 : Int)) (List.getD w1 ((0 : Nat) + (1 : Nat) + (1 : Nat)) (0 : Int)), ())))) (cond (eqI at0 (↑((0 : Nat) + (1 : Nat) + (1 : Nat) + (1 : Nat) + (1 : Nat)) : Int)) (must (eqI at0 (↑((0 : Nat) + (1 : Nat) + (1 : Nat) + (1 : Nat) + (1 : Nat)) : Int)) (some ((Row.mk (Fr.zero) (Fr.zero) (Fr.zero) (Fr.zero) (rr0.1) (Fr.zero) (Fr.zero) (Fr.zero) (List.getD w1 (0 : Nat) (0 : Int)) (List.getD w1 ((0 : Nat) + (1 : Nat)) (0 : Int)) (List.getD w1 ((0 : Nat) + (1 : Nat) + (1 : Nat)) (0 : Int)), ())))) (cond (eqI at0 (↑((0 : Nat) + (1 : Nat) + (1 : Nat) + (1 : Nat) + (1 : Nat) + (1 : Nat)) : Int)) (must (eqI at0 (↑((0 : Nat) + (1 : Nat) + (1 : Nat) + (1 : Nat) + (1 : Nat) + (1 : Nat)) : Int)) (some ((Row.mk (Fr.zero) (Fr.zero) (Fr.zero) (Fr.zero) (Fr.zero) (rr0.1) (Fr.zero) (Fr.zero) (List.getD w1 (0 : Nat) (0 : Int)) (List.getD w1 ((0 : Nat) + (1 : Nat)) (0 : Int)) (List.getD w1 ((0 : Nat) + (1 : Nat) + (1 : Nat)) (0 : Int)), ())))) (cond (eqI at0 (↑((0 : Nat) + (1 : Nat) + (1 : Nat) + (1 : Nat) + (1 : Nat) + (1 : Nat) + (1 : Nat)) : Int)) (must (eqI at0 (↑((0 : Nat) + (1 : Nat) + (1 : Nat) + (1 : Nat) + (1 : Nat) + (1 : Nat) + (1 : Nat)) : Int)) (some ((Row.mk (Fr.zero) (Fr.zero) (Fr.zero) (Fr.zero) (Fr.zero) (Fr.zero) (rr0.1) (Fr.zero) (List.getD w1 (0 : Nat) (0 : Int)) (List.getD w1 ((0 : Nat) + (1 : Nat)) (0 : Int)) (List.getD w1 ((0 : Nat) + (1 : Nat) + (1 : Nat)) (0 : Int)), ())))) (must (eqI at0 (↑((0 : Nat) + (1 : Nat) + (1 : Nat) + (1 : Nat) + (1 : Nat) + (1 : Nat) + (1 : Nat) + (1 : Nat)) : Int)) (must (eqI at0 (↑((0 : Nat) + (1 : Nat) + (1 : Nat) + (1 : Nat) + (1 : Nat) + (1 : Nat) + (1 : Nat) + (1 : Nat)) : Int)) (some ((Row.mk (Fr.zero) (Fr.zero) (Fr.zero) (Fr.zero) (Fr.zero) (Fr.zero) (Fr.zero) (rr0.1) (List.getD w1 (0 : Nat) (0 : Int)) (List.getD w1 ((0 : Nat) + (1 : Nat)) (0 : Int)) (List.getD w1 ((0 : Nat) + (1 : Nat) + (1 : Nat)) (0 : Int)), ())))))))))))))
theorem zyT : p195 = q195 := by
  (repeat (apply funext; intro _))
  simp only [p195, q195, zAE, zaf, zah, zai, zag]
def q108 (N : Nat) (s0 : Stp) : Option (List Row × Int × Unit) :=
  cond ((eqI s0.kind (1 : Int))) (cond ((eqI s0.kind (1 : Int))) (some (([], (0 : Int), ()))) (cond ((eqI s0.kind (2 : Int))) (some (([Row.mk (s0.q0) (s0.q1) (s0.q2) (s0.q3) (s0.q4) (Fr.zero) (Fr.zero) (Fr.zero) (mxI s0.v0 (-1 : Int)) (mxI s0.v1 (-1 : Int)) (mxI s0.v2 (-1 : Int))], (0 : Int), ()))) (cond ((eqI s0.kind (3 : Int))) (Option.bind (q195 N (5 : Int) ([Stp.v0 s0, (-1 : Int), (-1 : Int)])) fun rr7 => some (([rr7.1], (0 : Int), ()))) (cond ((eqI s0.kind (4 : Int))) (Option.bind (q195 N (6 : Int) ([Stp.v0 s0, (-1 : Int), Stp.v2 s0])) fun rr6 => some (([rr6.1], (0 : Int), ()))) (cond ((eqI s0.kind (5 : Int))) (Option.bind (q195 N (7 : Int) ([Stp.v0 s0, Stp.v1 s0, (-1 : Int)])) fun rr5 => some (([rr5.1, Row.mk (Fr.zero) (Fr.zero) (Fr.zero) (Fr.zero) (Fr.zero) (Fr.zero) (Fr.zero) (Fr.zero) s0.v2 (-1 : Int) (-1 : Int)], (0 : Int), ()))) (cond ((eqI s0.kind (7 : Int))) (Option.bind (q195 N (1 : Int) ([Stp.v0 s0, (-1 : Int), (-1 : Int)])) fun rr4 => some (([rr4.1], (0 : Int), ()))) (some (([], (11 : Int), ()))))))))) (cond ((eqI s0.kind (6 : Int))) (some (([], (0 : Int), ()))) (cond ((eqI s0.kind (2 : Int))) (some (([Row.mk (s0.q0) (s0.q1) (s0.q2) (s0.q3) (s0.q4) (Fr.zero) (Fr.zero) (Fr.zero) (mxI s0.v0 (-1 : Int)) (mxI s0.v1 (-1 : Int)) (mxI s0.v2 (-1 : Int))], (0 : Int), ()))) (cond ((eqI s0.kind (3 : Int))) (Option.bind (q195 N (5 : Int) ([Stp.v0 s0, (-1 : Int), (-1 : Int)])) fun rr3 => some (([rr3.1], (0 : Int), ()))) (cond ((eqI s0.kind (4 : Int))) (Option.bind (q195 N (6 : Int) ([Stp.v0 s0, (-1 : Int), Stp.v2 s0])) fun rr2 => some (([rr2.1], (0 : Int), ()))) (cond ((eqI s0.kind (5 : Int))) (Option.bind (q195 N (7 : Int) ([Stp.v0 s0, Stp.v1 s0, (-1 : Int)])) fun rr1 => some (([rr1.1, Row.mk (Fr.zero) (Fr.zero) (Fr.zero) (Fr.zero) (Fr.zero) (Fr.zero) (Fr.zero) (Fr.zero) s0.v2 (-1 : Int) (-1 : Int)], (0 : Int), ()))) (cond ((eqI s0.kind (7 : Int))) (Option.bind (q195 N (1 : Int) ([Stp.v0 s0, (-1 : Int), (-1 : Int)])) fun rr0 => some (([rr0.1], (0 : Int), ()))) (some (([], (11 : Int), ())))))))))
theorem zyU : p108 = q108 := by
  (repeat (apply funext; intro _))
  simp only [p108, q108, hide_eq, zyT, zaf, zah, zai, zag]
end
section
def Sc (x : Fr) : Prop := fv x < RR
def fmul (x y : Fr) : Fr := frN (fv x * fv y % RR)
def fadd (x y : Fr) : Fr := frN ((fv x + fv y) % RR)
theorem zaC : Sc Fr.zero := by unfold Sc; decide +kernel
theorem mulR {N : Nat} (hN : 10 < N) {a b : Fr} (hb : Sc b) : q94 N a b = some (fmul a b, ()) := zq4 hN hb
theorem addR {N : Nat} (hN : 10 < N) {a b : Fr} (ha : Sc a) (hb : Sc b) : q81 N a b = some (fadd a b, ()) := zyH hN ha hb
end
section
def nm (L x : Nat) : Fr := fmul (frN (7 ^ (x / 2 ^ L) % RR)) (frN (zAK L ^ (x % 2 ^ L) % RR))
def pre (l : List Fr) : Nat -> Nat
  | 0 => 1
  | i + 1 => pre l i * fv (l.getD i Fr.zero)
end
section
def zh6 (N : Nat) (A_2 : (List Row) -> Int -> Int -> Option (Bool × Unit)) (A_5 : (List Row) -> Int -> Int -> (List Fr) -> Int -> Option (Bool × Unit)) (t8 : List Row) (t9 t10 : Int) (t15 : List Fr) (t16 : Int) : Option (Bool × Unit) :=
  cond ((ltI t16 (8 : Int))) (must (leI (0 : Int) t16 && (ltI t16 (↑(8 : Nat) : Int) && ltI t16 (↑t15.length : Int))) (Option.bind (q79 N ((List.getD t15 t16.toNat (Fr.zero)))) fun r0 => cond (!r0.1) (some ((false, ()))) (A_5 t8 t9 t10 t15 ((wr (t16 + (1 : Int))))))) (A_2 t8 t9 ((wr (t10 + (1 : Int)))))
theorem zs8 : zp5 = zh6 := by
  (repeat (apply funext; intro _))
  simp only [zp5, zh6, hide_eq, zyt, zaf, zah, zai, zag]
def zeP (N : Nat) (A_2 : (List Row) -> Int -> Int -> Option (Bool × Unit)) (n : Nat) (t8 : List Row) (t9 t10 : Int) (t15 : List Fr) (t16 : Int) : Option (Bool × Unit) :=
  zaq (fun A x => zh6 N A_2 (fun t8 t9 t10 t15 t16 => A ((t8, (t9, (t10, (t15, (t16, ()))))), ())) x.1.1 x.1.2.1 x.1.2.2.1 x.1.2.2.2.1 x.1.2.2.2.2.1) n ((t8, (t9, (t10, (t15, (t16, ()))))), ())
theorem zs9 : zp6 = zeP := by
  (repeat (apply funext; intro _))
  simp only [zp6, zeP, zs8, zaf, zah, zai, zag]
theorem zg2 (N : Nat) (A_2 : (List Row) -> Int -> Int -> Option (Bool × Unit)) (n : Nat) (t8 : List Row) (t9 t10 : Int) (t15 : List Fr) (t16 : Int) : zeP N A_2 (n + 1) t8 t9 t10 t15 t16 = zh6 N A_2 (zeP N A_2 n) t8 t9 t10 t15 t16 := rfl
def zh7 (N : Nat) (A_2 : (List Row) -> Int -> Int -> Option (Bool × Unit)) (t8 : List Row) (t9 t10 : Int) : Option (Bool × Unit) :=
  cond ((ltI t10 t9)) (must (leI (0 : Int) t10 && ltI t10 (↑t8.length : Int)) (zeP N A_2 N t8 t9 t10 ([(Row.q0 (List.getD t8 t10.toNat zrow)), (Row.q1 (List.getD t8 t10.toNat zrow)), (Row.q2 (List.getD t8 t10.toNat zrow)), (Row.q3 (List.getD t8 t10.toNat zrow)), (Row.q4 (List.getD t8 t10.toNat zrow)), (Row.q5 (List.getD t8 t10.toNat zrow)), (Row.q6 (List.getD t8 t10.toNat zrow)), (Row.q7 (List.getD t8 t10.toNat zrow))]) (0 : Int))) (some ((true, ())))
theorem zta : zp7 = zh7 := by
  (repeat (apply funext; intro _))
  simp only [zp7, zh7, hide_eq, zs9, zaf, zah, zai, zag]
def zh8 (N n : Nat) (t8 : List Row) (t9 t10 : Int) : Option (Bool × Unit) :=
  zaq (fun A x => zh7 N (fun t8 t9 t10 => A ((t8, (t9, (t10, ()))), ())) x.1.1 x.1.2.1 x.1.2.2.1) n ((t8, (t9, (t10, ()))), ())
theorem ztb : zp8 = zh8 := by
  (repeat (apply funext; intro _))
  simp only [zp8, zh8, zta, zaf, zah, zai, zag]
theorem zg3 (N n : Nat) (t8 : List Row) (t9 t10 : Int) : zh8 N (n + 1) t8 t9 t10 = zh7 N (zh8 N n) t8 t9 t10 := rfl
def q200 (N : Nat) (c0 v1 : Int) (v2 : List Row) (v3 : List Pr) : Option (Bool × Unit) :=
  zh8 N N v2 ((↑v2.length : Int)) (0 : Int)
theorem zyV : p200 = q200 := by
  (repeat (apply funext; intro _))
  simp only [p200, q200, ztb, zaf, zah, zai, zag]
def zfi (N : Nat) (A_12 : (List Pr) -> Int -> Int -> Int -> Int -> (List Row) -> (List Pr) -> Option (Bool × Unit)) (t28 : List Pr) (t29 t30 ob0_0 ob0_1 : Int) (ob0_2 : List Row) (ob0_3 : List Pr) : Option (Bool × Unit) :=
  cond ((ltI t30 t29)) (must (leI (0 : Int) t30 && ltI t30 (↑t28.length : Int)) (cond ((ltI (mnI (Pr.x (List.getD t28 t30.toNat (Pr.mk (0 : Int) (0 : Int)))) (Pr.y (List.getD t28 t30.toNat (Pr.mk (0 : Int) (0 : Int))))) (0 : Int))) (some ((false, ()))) (cond ((leI ob0_1 (mxI (Pr.x (List.getD t28 t30.toNat (Pr.mk (0 : Int) (0 : Int)))) (Pr.y (List.getD t28 t30.toNat (Pr.mk (0 : Int) (0 : Int))))))) (some ((false, ()))) (A_12 t28 t29 ((wr (t30 + (1 : Int)))) ob0_0 ob0_1 ob0_2 ob0_3)))) (some ((true, ())))
theorem zq8 : zlC = zfi := by
  (repeat (apply funext; intro _))
  simp only [zlC, zfi, hide_eq, zaf, zah, zai, zag]
def zeb (N n : Nat) (t28 : List Pr) (t29 t30 ob0_0 ob0_1 : Int) (ob0_2 : List Row) (ob0_3 : List Pr) : Option (Bool × Unit) :=
  zaq (fun A x => zfi N (fun t28 t29 t30 ob0_0 ob0_1 ob0_2 ob0_3 => A (((), (t28, (t29, (t30, ())))), ((ob0_0, (ob0_1, (ob0_2, (ob0_3, ())))), ()))) x.1.2.1 x.1.2.2.1 x.1.2.2.2.1 x.2.1.1 x.2.1.2.1 x.2.1.2.2.1 x.2.1.2.2.2.1) n (((), (t28, (t29, (t30, ())))), ((ob0_0, (ob0_1, (ob0_2, (ob0_3, ())))), ()))
theorem zq9 : zlD = zeb := by
  (repeat (apply funext; intro _))
  simp only [zlD, zeb, zq8, zaf, zah, zai, zag]
theorem zfK (N n : Nat) (t28 : List Pr) (t29 t30 ob0_0 ob0_1 : Int) (ob0_2 : List Row) (ob0_3 : List Pr) : zeb N (n + 1) t28 t29 t30 ob0_0 ob0_1 ob0_2 ob0_3 = zfi N (zeb N n) t28 t29 t30 ob0_0 ob0_1 ob0_2 ob0_3 := rfl
def zh9 (N : Nat) (A_2 : (List Row) -> Int -> Int -> Int -> Int -> (List Row) -> (List Pr) -> Option (Bool × Unit)) (A_5 : (List Row) -> Int -> Int -> (List Int) -> Int -> Int -> Int -> (List Row) -> (List Pr) -> Option (Bool × Unit)) (t10 : List Row) (t11 t12 : Int) (t17 : List Int) (t18 ob0_0 ob0_1 : Int) (ob0_2 : List Row) (ob0_3 : List Pr) : Option (Bool × Unit) :=
  cond ((ltI t18 (3 : Int))) (must (leI (0 : Int) t18 && (ltI t18 (↑(3 : Nat) : Int) && ltI t18 (↑t17.length : Int))) (cond ((leI ob0_1 (List.getD t17 t18.toNat (0 : Int)))) (some ((false, ()))) (A_5 t10 t11 t12 t17 ((wr (t18 + (1 : Int)))) ob0_0 ob0_1 ob0_2 ob0_3))) (A_2 t10 t11 ((wr (t12 + (1 : Int)))) ob0_0 ob0_1 ob0_2 ob0_3)
theorem ztc : zqa = zh9 := by
  (repeat (apply funext; intro _))
  simp only [zqa, zh9, hide_eq, zaf, zah, zai, zag]
def zeQ (N : Nat) (A_2 : (List Row) -> Int -> Int -> Int -> Int -> (List Row) -> (List Pr) -> Option (Bool × Unit)) (n : Nat) (t10 : List Row) (t11 t12 : Int) (t17 : List Int) (t18 ob0_0 ob0_1 : Int) (ob0_2 : List Row) (ob0_3 : List Pr) : Option (Bool × Unit) :=
  zaq (fun A x => zh9 N A_2 (fun t10 t11 t12 t17 t18 ob0_0 ob0_1 ob0_2 ob0_3 => A (((), (t10, (t11, (t12, (t17, (t18, ())))))), ((ob0_0, (ob0_1, (ob0_2, (ob0_3, ())))), ()))) x.1.2.1 x.1.2.2.1 x.1.2.2.2.1 x.1.2.2.2.2.1 x.1.2.2.2.2.2.1 x.2.1.1 x.2.1.2.1 x.2.1.2.2.1 x.2.1.2.2.2.1) n (((), (t10, (t11, (t12, (t17, (t18, ())))))), ((ob0_0, (ob0_1, (ob0_2, (ob0_3, ())))), ()))
theorem ztd : zqb = zeQ := by
  (repeat (apply funext; intro _))
  simp only [zqb, zeQ, ztc, zaf, zah, zai, zag]
theorem zg4 (N : Nat) (A_2 : (List Row) -> Int -> Int -> Int -> Int -> (List Row) -> (List Pr) -> Option (Bool × Unit)) (n : Nat) (t10 : List Row) (t11 t12 : Int) (t17 : List Int) (t18 ob0_0 ob0_1 : Int) (ob0_2 : List Row) (ob0_3 : List Pr) : zeQ N A_2 (n + 1) t10 t11 t12 t17 t18 ob0_0 ob0_1 ob0_2 ob0_3 = zh9 N A_2 (zeQ N A_2 n) t10 t11 t12 t17 t18 ob0_0 ob0_1 ob0_2 ob0_3 := rfl
def zia (N : Nat) (A_2 : (List Row) -> Int -> Int -> Int -> Int -> (List Row) -> (List Pr) -> Option (Bool × Unit)) (t10 : List Row) (t11 t12 ob0_0 ob0_1 : Int) (ob0_2 : List Row) (ob0_3 : List Pr) : Option (Bool × Unit) :=
  cond ((ltI t12 t11)) (must (leI (0 : Int) t12 && ltI t12 (↑t10.length : Int)) (zeQ N A_2 N t10 t11 t12 ([Row.w0 (List.getD t10 t12.toNat zrow), Row.w1 (List.getD t10 t12.toNat zrow), Row.w2 (List.getD t10 t12.toNat zrow)]) (0 : Int) ob0_0 ob0_1 ob0_2 ob0_3)) (zeb N N ob0_3 ((↑ob0_3.length : Int)) (0 : Int) ob0_0 ob0_1 ob0_2 ob0_3)
theorem zte : zqc = zia := by
  (repeat (apply funext; intro _))
  simp only [zqc, zia, hide_eq, zq9, ztd, zaf, zah, zai, zag]
def zib (N n : Nat) (t10 : List Row) (t11 t12 ob0_0 ob0_1 : Int) (ob0_2 : List Row) (ob0_3 : List Pr) : Option (Bool × Unit) :=
  zaq (fun A x => zia N (fun t10 t11 t12 ob0_0 ob0_1 ob0_2 ob0_3 => A (((), (t10, (t11, (t12, ())))), ((ob0_0, (ob0_1, (ob0_2, (ob0_3, ())))), ()))) x.1.2.1 x.1.2.2.1 x.1.2.2.2.1 x.2.1.1 x.2.1.2.1 x.2.1.2.2.1 x.2.1.2.2.2.1) n (((), (t10, (t11, (t12, ())))), ((ob0_0, (ob0_1, (ob0_2, (ob0_3, ())))), ()))
theorem ztf : zqd = zib := by
  (repeat (apply funext; intro _))
  simp only [zqd, zib, zte, zaf, zah, zai, zag]
theorem zg5 (N n : Nat) (t10 : List Row) (t11 t12 ob0_0 ob0_1 : Int) (ob0_2 : List Row) (ob0_3 : List Pr) : zib N (n + 1) t10 t11 t12 ob0_0 ob0_1 ob0_2 ob0_3 = zia N (zib N n) t10 t11 t12 ob0_0 ob0_1 ob0_2 ob0_3 := rfl
def q201 (N : Nat) (c0 v1 : Int) (v2 : List Row) (v3 : List Pr) : Option (Bool × Unit) :=
  zib N N v2 ((↑v2.length : Int)) (0 : Int) c0 v1 v2 v3
theorem zyW : p201 = q201 := by
  (repeat (apply funext; intro _))
  simp only [p201, q201, ztf, zaf, zah, zai, zag]
def q220 (N : Nat) (r0 : Row) : Option (Bool × Unit) :=
  Option.bind (q108 N (Stp.mk (7 : Int) r0.w0 (0 : Int) (0 : Int) (Fr.zero) (Fr.zero) (Fr.zero) (Fr.zero) (Fr.zero))) fun rr0 => cond ((leI (0 : Int) r0.w0)) (must (ltI (0 : Int) (↑rr0.1.length : Int)) (some (((zaO r0 (List.getD rr0.1 (0 : Nat) zrow)), ())))) (some ((false, ())))
theorem zyX : p220 = q220 := by
  (repeat (apply funext; intro _))
  simp only [p220, q220, hide_eq, zyU, zaf, zah, zai, zag]
def zic (N : Nat) (A_2 : (List Row) -> Int -> Int -> Int -> Int -> (List Row) -> (List Pr) -> Option (Bool × Unit)) (t6 : List Row) (t7 t8 ob0_0 ob0_1 : Int) (ob0_2 : List Row) (ob0_3 : List Pr) : Option (Bool × Unit) :=
  cond ((ltI t8 t7)) (must (leI (0 : Int) t8 && ltI t8 (↑t6.length : Int)) (cond ((ltI t8 ob0_0)) (Option.bind (q220 N (Row.mk ((Row.q0 (List.getD t6 t8.toNat zrow))) ((Row.q1 (List.getD t6 t8.toNat zrow))) ((Row.q2 (List.getD t6 t8.toNat zrow))) ((Row.q3 (List.getD t6 t8.toNat zrow))) ((Row.q4 (List.getD t6 t8.toNat zrow))) ((Row.q5 (List.getD t6 t8.toNat zrow))) ((Row.q6 (List.getD t6 t8.toNat zrow))) ((Row.q7 (List.getD t6 t8.toNat zrow))) (Row.w0 (List.getD t6 t8.toNat zrow)) (Row.w1 (List.getD t6 t8.toNat zrow)) (Row.w2 (List.getD t6 t8.toNat zrow)))) fun r0 => cond (!r0.1) (some ((false, ()))) (cond ((ltI (mnI (mnI (Row.w0 (List.getD t6 t8.toNat zrow)) (Row.w1 (List.getD t6 t8.toNat zrow))) (Row.w2 (List.getD t6 t8.toNat zrow))) (-1 : Int))) (some ((false, ()))) (A_2 t6 t7 ((wr (t8 + (1 : Int)))) ob0_0 ob0_1 ob0_2 ob0_3))) (cond ((ltI (mnI (mnI (Row.w0 (List.getD t6 t8.toNat zrow)) (Row.w1 (List.getD t6 t8.toNat zrow))) (Row.w2 (List.getD t6 t8.toNat zrow))) (-1 : Int))) (some ((false, ()))) (A_2 t6 t7 ((wr (t8 + (1 : Int)))) ob0_0 ob0_1 ob0_2 ob0_3)))) (some ((true, ())))
theorem ztg : zqg = zic := by
  (repeat (apply funext; intro _))
  simp only [zqg, zic, hide_eq, zyX, zaf, zah, zai, zag]
def zid (N n : Nat) (t6 : List Row) (t7 t8 ob0_0 ob0_1 : Int) (ob0_2 : List Row) (ob0_3 : List Pr) : Option (Bool × Unit) :=
  zaq (fun A x => zic N (fun t6 t7 t8 ob0_0 ob0_1 ob0_2 ob0_3 => A (((), (t6, (t7, (t8, ())))), ((ob0_0, (ob0_1, (ob0_2, (ob0_3, ())))), ()))) x.1.2.1 x.1.2.2.1 x.1.2.2.2.1 x.2.1.1 x.2.1.2.1 x.2.1.2.2.1 x.2.1.2.2.2.1) n (((), (t6, (t7, (t8, ())))), ((ob0_0, (ob0_1, (ob0_2, (ob0_3, ())))), ()))
theorem zth : zqh = zid := by
  (repeat (apply funext; intro _))
  simp only [zqh, zid, ztg, zaf, zah, zai, zag]
theorem zg6 (N n : Nat) (t6 : List Row) (t7 t8 ob0_0 ob0_1 : Int) (ob0_2 : List Row) (ob0_3 : List Pr) : zid N (n + 1) t6 t7 t8 ob0_0 ob0_1 ob0_2 ob0_3 = zic N (zid N n) t6 t7 t8 ob0_0 ob0_1 ob0_2 ob0_3 := rfl
def q202 (N : Nat) (c0 v1 : Int) (v2 : List Row) (v3 : List Pr) : Option (Bool × Unit) :=
  zid N N v2 ((↑v2.length : Int)) (0 : Int) c0 v1 v2 v3
theorem zyY : p202 = q202 := by
  (repeat (apply funext; intro _))
  simp only [p202, q202, zth, zaf, zah, zai, zag]
def q119 (N : Nat) (c0 v1 : Int) (v2 : List Row) (v3 : List Pr) : Option (Int × Unit) :=
  cond ((ltI (8 : Int) c0)) (cond ((ltI (8 : Int) c0)) (some (((8 : Int), ()))) (cond ((ltI c0 (0 : Int))) (cond ((ltI c0 (0 : Int))) (some (((1 : Int), ()))) (Option.bind (q200 N c0 v1 v2 v3) fun r33 => cond (!r33.1) (some (((4 : Int), ()))) (Option.bind (q201 N c0 v1 v2 v3) fun r34 => cond (!r34.1) (some (((10 : Int), ()))) (Option.bind (q202 N c0 v1 v2 v3) fun r35 => cond (!r35.1) (some (((3 : Int), ()))) (some (((0 : Int), ()))))))) (cond ((ltI v1 (0 : Int))) (cond ((ltI v1 (0 : Int))) (some (((1 : Int), ()))) (Option.bind (q200 N c0 v1 v2 v3) fun r30 => cond (!r30.1) (some (((4 : Int), ()))) (Option.bind (q201 N c0 v1 v2 v3) fun r31 => cond (!r31.1) (some (((10 : Int), ()))) (Option.bind (q202 N c0 v1 v2 v3) fun r32 => cond (!r32.1) (some (((3 : Int), ()))) (some (((0 : Int), ()))))))) (cond ((ltI (↑v2.length : Int) c0)) (some (((1 : Int), ()))) (Option.bind (q200 N c0 v1 v2 v3) fun r27 => cond (!r27.1) (some (((4 : Int), ()))) (Option.bind (q201 N c0 v1 v2 v3) fun r28 => cond (!r28.1) (some (((10 : Int), ()))) (Option.bind (q202 N c0 v1 v2 v3) fun r29 => cond (!r29.1) (some (((3 : Int), ()))) (some (((0 : Int), ())))))))))) (cond ((ltI (200 : Int) v1)) (cond ((ltI (200 : Int) v1)) (some (((8 : Int), ()))) (cond ((ltI c0 (0 : Int))) (cond ((ltI c0 (0 : Int))) (some (((1 : Int), ()))) (Option.bind (q200 N c0 v1 v2 v3) fun r24 => cond (!r24.1) (some (((4 : Int), ()))) (Option.bind (q201 N c0 v1 v2 v3) fun r25 => cond (!r25.1) (some (((10 : Int), ()))) (Option.bind (q202 N c0 v1 v2 v3) fun r26 => cond (!r26.1) (some (((3 : Int), ()))) (some (((0 : Int), ()))))))) (cond ((ltI v1 (0 : Int))) (cond ((ltI v1 (0 : Int))) (some (((1 : Int), ()))) (Option.bind (q200 N c0 v1 v2 v3) fun r21 => cond (!r21.1) (some (((4 : Int), ()))) (Option.bind (q201 N c0 v1 v2 v3) fun r22 => cond (!r22.1) (some (((10 : Int), ()))) (Option.bind (q202 N c0 v1 v2 v3) fun r23 => cond (!r23.1) (some (((3 : Int), ()))) (some (((0 : Int), ()))))))) (cond ((ltI (↑v2.length : Int) c0)) (some (((1 : Int), ()))) (Option.bind (q200 N c0 v1 v2 v3) fun r18 => cond (!r18.1) (some (((4 : Int), ()))) (Option.bind (q201 N c0 v1 v2 v3) fun r19 => cond (!r19.1) (some (((10 : Int), ()))) (Option.bind (q202 N c0 v1 v2 v3) fun r20 => cond (!r20.1) (some (((3 : Int), ()))) (some (((0 : Int), ())))))))))) (cond ((ltI (64 : Int) (↑v2.length : Int))) (cond ((ltI (64 : Int) (↑v2.length : Int))) (some (((8 : Int), ()))) (cond ((ltI c0 (0 : Int))) (cond ((ltI c0 (0 : Int))) (some (((1 : Int), ()))) (Option.bind (q200 N c0 v1 v2 v3) fun r15 => cond (!r15.1) (some (((4 : Int), ()))) (Option.bind (q201 N c0 v1 v2 v3) fun r16 => cond (!r16.1) (some (((10 : Int), ()))) (Option.bind (q202 N c0 v1 v2 v3) fun r17 => cond (!r17.1) (some (((3 : Int), ()))) (some (((0 : Int), ()))))))) (cond ((ltI v1 (0 : Int))) (cond ((ltI v1 (0 : Int))) (some (((1 : Int), ()))) (Option.bind (q200 N c0 v1 v2 v3) fun r12 => cond (!r12.1) (some (((4 : Int), ()))) (Option.bind (q201 N c0 v1 v2 v3) fun r13 => cond (!r13.1) (some (((10 : Int), ()))) (Option.bind (q202 N c0 v1 v2 v3) fun r14 => cond (!r14.1) (some (((3 : Int), ()))) (some (((0 : Int), ()))))))) (cond ((ltI (↑v2.length : Int) c0)) (some (((1 : Int), ()))) (Option.bind (q200 N c0 v1 v2 v3) fun r9 => cond (!r9.1) (some (((4 : Int), ()))) (Option.bind (q201 N c0 v1 v2 v3) fun r10 => cond (!r10.1) (some (((10 : Int), ()))) (Option.bind (q202 N c0 v1 v2 v3) fun r11 => cond (!r11.1) (some (((3 : Int), ()))) (some (((0 : Int), ())))))))))) (cond ((ltI (200 : Int) (↑v3.length : Int))) (some (((8 : Int), ()))) (cond ((ltI c0 (0 : Int))) (cond ((ltI c0 (0 : Int))) (some (((1 : Int), ()))) (Option.bind (q200 N c0 v1 v2 v3) fun r6 => cond (!r6.1) (some (((4 : Int), ()))) (Option.bind (q201 N c0 v1 v2 v3) fun r7 => cond (!r7.1) (some (((10 : Int), ()))) (Option.bind (q202 N c0 v1 v2 v3) fun r8 => cond (!r8.1) (some (((3 : Int), ()))) (some (((0 : Int), ()))))))) (cond ((ltI v1 (0 : Int))) (cond ((ltI v1 (0 : Int))) (some (((1 : Int), ()))) (Option.bind (q200 N c0 v1 v2 v3) fun r3 => cond (!r3.1) (some (((4 : Int), ()))) (Option.bind (q201 N c0 v1 v2 v3) fun r4 => cond (!r4.1) (some (((10 : Int), ()))) (Option.bind (q202 N c0 v1 v2 v3) fun r5 => cond (!r5.1) (some (((3 : Int), ()))) (some (((0 : Int), ()))))))) (cond ((ltI (↑v2.length : Int) c0)) (some (((1 : Int), ()))) (Option.bind (q200 N c0 v1 v2 v3) fun r0 => cond (!r0.1) (some (((4 : Int), ()))) (Option.bind (q201 N c0 v1 v2 v3) fun r1 => cond (!r1.1) (some (((10 : Int), ()))) (Option.bind (q202 N c0 v1 v2 v3) fun r2 => cond (!r2.1) (some (((3 : Int), ()))) (some (((0 : Int), ()))))))))))))
theorem zt3 : p119 = q119 := by
  (repeat (apply funext; intro _))
  simp only [p119, q119, hide_eq, zyV, zyW, zyY, zaf, zah, zai, zag]
end
section
def smI : List Int -> Nat
  | [] => 0
  | x :: l => x.toNat + smI l
inductive Alike2 (S : List Pr) : Int -> Int -> Prop
  | refl (a : Int) : Alike2 S a a
  | pair {p : Pr} : p ∈ S -> Alike2 S p.x p.y
  | symm {a b : Int} : Alike2 S a b -> Alike2 S b a
  | trans {a b c : Int} : Alike2 S a b -> Alike2 S b c -> Alike2 S a c
def zwd (S : List Pr) (V : Nat) : Prop := ∀ p ∈ S, (0 <= p.x /\ p.x < (V : Int)) /\ 0 <= p.y /\ p.y < (V : Int)
structure GoodC (S : List Pr) (V : Nat) (l : List Int) : Prop where
  len : l.length = V
  nn : ∀ i : Nat, i < V -> 0 <= l.getD i 0
  le : ∀ i : Nat, i < V -> l.getD i 0 <= (i : Int)
  al : ∀ i : Nat, i < V -> Alike2 S (i : Int) (l.getD i 0)
end
section
def Turn (ag ag' : Bool) (l l' : List Int) : Prop := (ag' = ag /\ l' = l) \/ (ag' = true /\ smI l' < smI l)
theorem Turn.le {ag ag' : Bool} {l l' : List Int} (h : Turn ag ag' l l') : smI l' <= smI l := by
  rcases h with ⟨_, rfl⟩ | ⟨_, h⟩
  . exact Nat.le_refl _
  . omega
theorem Turn.trans {a b c : Bool} {l m k : List Int} (h1 : Turn a b l m) (h2 : Turn b c m k) : Turn a c l k := by
  rcases h2 with ⟨rfl, rfl⟩ | ⟨h, hlt⟩
  . exact h1
  . exact .inr ⟨h, by have := h1.le; omega⟩
end
section
theorem zal (r : Row) : Row.mk r.q0 r.q1 r.q2 r.q3 r.q4 r.q5 r.q6 r.q7 r.w0 r.w1 r.w2 = r := rfl
theorem zao (s : Stp) : Stp.mk s.kind s.v0 s.v1 s.v2 s.q0 s.q1 s.q2 s.q3 s.q4 = s := rfl
theorem zav : Row.mk Fr.zero Fr.zero Fr.zero Fr.zero Fr.zero Fr.zero Fr.zero Fr.zero 0 0 0 = zrow := rfl
def q218 (N : Nat) : Option (Fr × Unit) :=
  Option.bind (q173 N (1 : UInt64)) fun rr0 => some ((rr0.1, ()))
theorem zyZ : p218 = q218 := by
  (repeat (apply funext; intro _))
  simp only [p218, q218, zmZ, zaf, zah, zai, zag, zal, zao, zaO, zav]
def zl4 (N : Nat) (A_14 : Int -> Row -> (List Int) -> Option (List Row × Int × Unit)) (i7 : Int) (ob0 : Row) (ob1 : List Int) : Option (List Row × Int × Unit) :=
  cond ((ltI i7 (3 : Int))) (must (leI (0 : Int) i7 && ltI i7 (↑(3 : Nat) : Int)) (cond (eqI i7 (↑(0 : Nat) : Int)) (must (eqI i7 (↑(0 : Nat) : Int)) (A_14 ((wr ((↑(0 : Nat) : Int) + (1 : Int)))) (Row.mk (ob0.q0) (ob0.q1) (ob0.q2) (ob0.q3) (ob0.q4) (ob0.q5) (ob0.q6) (ob0.q7) (mxI (List.getD ob1 i7.toNat (0 : Int)) (-1 : Int)) ob0.w1 ob0.w2) ob1)) (cond (eqI i7 (↑((0 : Nat) + (1 : Nat)) : Int)) (must (eqI i7 (↑((0 : Nat) + (1 : Nat)) : Int)) (A_14 ((wr ((↑((0 : Nat) + (1 : Nat)) : Int) + (1 : Int)))) (Row.mk (ob0.q0) (ob0.q1) (ob0.q2) (ob0.q3) (ob0.q4) (ob0.q5) (ob0.q6) (ob0.q7) ob0.w0 (mxI (List.getD ob1 i7.toNat (0 : Int)) (-1 : Int)) ob0.w2) ob1)) (must (eqI i7 (↑((0 : Nat) + (1 : Nat) + (1 : Nat)) : Int)) (must (eqI i7 (↑((0 : Nat) + (1 : Nat) + (1 : Nat)) : Int)) (A_14 ((wr ((↑((0 : Nat) + (1 : Nat) + (1 : Nat)) : Int) + (1 : Int)))) (Row.mk (ob0.q0) (ob0.q1) (ob0.q2) (ob0.q3) (ob0.q4) (ob0.q5) (ob0.q6) (ob0.q7) ob0.w0 ob0.w1 (mxI (List.getD ob1 i7.toNat (0 : Int)) (-1 : Int))) ob1)))))) (some (([ob0], (0 : Int), ())))
theorem zra : zlK = zl4 := by
  (repeat (apply funext; intro _))
  simp only [zlK, zl4, hide_eq, zaf, zah, zai, zag, zal, zao, zaO, zav]
def zl5 (N n : Nat) (i7 : Int) (ob0 : Row) (ob1 : List Int) : Option (List Row × Int × Unit) :=
  zaq (fun A x => zl4 N (fun i7 ob0 ob1 => A (((), ((), (i7, ()))), (ob0, (ob1, ())))) x.1.2.2.1 x.2.1 x.2.2.1) n (((), ((), (i7, ()))), (ob0, (ob1, ())))
theorem zrb : zlL = zl5 := by
  (repeat (apply funext; intro _))
  simp only [zlL, zl5, zra, zaf, zah, zai, zag, zal, zao, zaO, zav]
def zl6 (N : Nat) (A_10 : Int -> Stp -> Row -> (List Int) -> Option (List Row × Int × Unit)) (i6 : Int) (ob0 : Stp) (ob1 : Row) (ob2 : List Int) : Option (List Row × Int × Unit) :=
  cond ((ltI i6 (5 : Int))) (cond (eqI i6 (↑(0 : Nat) : Int)) (must (eqI i6 (↑(0 : Nat) : Int)) (cond (eqI i6 (↑(0 : Nat) : Int)) (A_10 ((wr ((↑(0 : Nat) : Int) + (1 : Int)))) (ob0) (Row.mk (ob0.q0) (ob1.q1) (ob1.q2) (ob1.q3) (ob1.q4) (ob1.q5) (ob1.q6) (ob1.q7) ob1.w0 ob1.w1 ob1.w2) ob2) (cond (eqI i6 (↑((0 : Nat) + (1 : Nat)) : Int)) (none) (cond (eqI i6 (↑((0 : Nat) + (1 : Nat) + (1 : Nat)) : Int)) (none) (cond (eqI i6 (↑((0 : Nat) + (1 : Nat) + (1 : Nat) + (1 : Nat)) : Int)) (none) (cond (eqI i6 (↑((0 : Nat) + (1 : Nat) + (1 : Nat) + (1 : Nat) + (1 : Nat)) : Int)) (none) (cond (eqI i6 (↑((0 : Nat) + (1 : Nat) + (1 : Nat) + (1 : Nat) + (1 : Nat) + (1 : Nat)) : Int)) (none) (cond (eqI i6 (↑((0 : Nat) + (1 : Nat) + (1 : Nat) + (1 : Nat) + (1 : Nat) + (1 : Nat) + (1 : Nat)) : Int)) (none) (must (eqI i6 (↑((0 : Nat) + (1 : Nat) + (1 : Nat) + (1 : Nat) + (1 : Nat) + (1 : Nat) + (1 : Nat) + (1 : Nat)) : Int)) (none)))))))))) (cond (eqI i6 (↑((0 : Nat) + (1 : Nat)) : Int)) (must (eqI i6 (↑((0 : Nat) + (1 : Nat)) : Int)) (cond (eqI i6 (↑(0 : Nat) : Int)) (none) (cond (eqI i6 (↑((0 : Nat) + (1 : Nat)) : Int)) (A_10 ((wr ((↑((0 : Nat) + (1 : Nat)) : Int) + (1 : Int)))) (ob0) (Row.mk (ob1.q0) (ob0.q1) (ob1.q2) (ob1.q3) (ob1.q4) (ob1.q5) (ob1.q6) (ob1.q7) ob1.w0 ob1.w1 ob1.w2) ob2) (cond (eqI i6 (↑((0 : Nat) + (1 : Nat) + (1 : Nat)) : Int)) (none) (cond (eqI i6 (↑((0 : Nat) + (1 : Nat) + (1 : Nat) + (1 : Nat)) : Int)) (none) (cond (eqI i6 (↑((0 : Nat) + (1 : Nat) + (1 : Nat) + (1 : Nat) + (1 : Nat)) : Int)) (none) (cond (eqI i6 (↑((0 : Nat) + (1 : Nat) + (1 : Nat) + (1 : Nat) + (1 : Nat) + (1 : Nat)) : Int)) (none) (cond (eqI i6 (↑((0 : Nat) + (1 : Nat) + (1 : Nat) + (1 : Nat) + (1 : Nat) + (1 : Nat) + (1 : Nat)) : Int)) (none) (must (eqI i6 (↑((0 : Nat) + (1 : Nat) + (1 : Nat) + (1 : Nat) + (1 : Nat) + (1 : Nat) + (1 : Nat) + (1 : Nat)) : Int)) (none)))))))))) (cond (eqI i6 (↑((0 : Nat) + (1 : Nat) + (1 : Nat)) : Int)) (must (eqI i6 (↑((0 : Nat) + (1 : Nat) + (1 : Nat)) : Int)) (cond (eqI i6 (↑(0 : Nat) : Int)) (none) (cond (eqI i6 (↑((0 : Nat) + (1 : Nat)) : Int)) (none) (cond (eqI i6 (↑((0 : Nat) + (1 : Nat) + (1 : Nat)) : Int)) (A_10 ((wr ((↑((0 : Nat) + (1 : Nat) + (1 : Nat)) : Int) + (1 : Int)))) (ob0) (Row.mk (ob1.q0) (ob1.q1) (ob0.q2) (ob1.q3) (ob1.q4) (ob1.q5) (ob1.q6) (ob1.q7) ob1.w0 ob1.w1 ob1.w2) ob2) (cond (eqI i6 (↑((0 : Nat) + (1 : Nat) + (1 : Nat) + (1 : Nat)) : Int)) (none) (cond (eqI i6 (↑((0 : Nat) + (1 : Nat) + (1 : Nat) + (1 : Nat) + (1 : Nat)) : Int)) (none) (cond (eqI i6 (↑((0 : Nat) + (1 : Nat) + (1 : Nat) + (1 : Nat) + (1 : Nat) + (1 : Nat)) : Int)) (none) (cond (eqI i6 (↑((0 : Nat) + (1 : Nat) + (1 : Nat) + (1 : Nat) + (1 : Nat) + (1 : Nat) + (1 : Nat)) : Int)) (none) (must (eqI i6 (↑((0 : Nat) + (1 : Nat) + (1 : Nat) + (1 : Nat) + (1 : Nat) + (1 : Nat) + (1 : Nat) + (1 : Nat)) : Int)) (none)))))))))) (cond (eqI i6 (↑((0 : Nat) + (1 : Nat) + (1 : Nat) + (1 : Nat)) : Int)) (must (eqI i6 (↑((0 : Nat) + (1 : Nat) + (1 : Nat) + (1 : Nat)) : Int)) (cond (eqI i6 (↑(0 : Nat) : Int)) (none) (cond (eqI i6 (↑((0 : Nat) + (1 : Nat)) : Int)) (none) (cond (eqI i6 (↑((0 : Nat) + (1 : Nat) + (1 : Nat)) : Int)) (none) (cond (eqI i6 (↑((0 : Nat) + (1 : Nat) + (1 : Nat) + (1 : Nat)) : Int)) (A_10 ((wr ((↑((0 : Nat) + (1 : Nat) + (1 : Nat) + (1 : Nat)) : Int) + (1 : Int)))) (ob0) (Row.mk (ob1.q0) (ob1.q1) (ob1.q2) (ob0.q3) (ob1.q4) (ob1.q5) (ob1.q6) (ob1.q7) ob1.w0 ob1.w1 ob1.w2) ob2) (cond (eqI i6 (↑((0 : Nat) + (1 : Nat) + (1 : Nat) + (1 : Nat) + (1 : Nat)) : Int)) (none) (cond (eqI i6 (↑((0 : Nat) + (1 : Nat) + (1 : Nat) + (1 : Nat) + (1 : Nat) + (1 : Nat)) : Int)) (none) (cond (eqI i6 (↑((0 : Nat) + (1 : Nat) + (1 : Nat) + (1 : Nat) + (1 : Nat) + (1 : Nat) + (1 : Nat)) : Int)) (none) (must (eqI i6 (↑((0 : Nat) + (1 : Nat) + (1 : Nat) + (1 : Nat) + (1 : Nat) + (1 : Nat) + (1 : Nat) + (1 : Nat)) : Int)) (none)))))))))) (must (eqI i6 (↑((0 : Nat) + (1 : Nat) + (1 : Nat) + (1 : Nat) + (1 : Nat)) : Int)) (must (eqI i6 (↑((0 : Nat) + (1 : Nat) + (1 : Nat) + (1 : Nat) + (1 : Nat)) : Int)) (cond (eqI i6 (↑(0 : Nat) : Int)) (none) (cond (eqI i6 (↑((0 : Nat) + (1 : Nat)) : Int)) (none) (cond (eqI i6 (↑((0 : Nat) + (1 : Nat) + (1 : Nat)) : Int)) (none) (cond (eqI i6 (↑((0 : Nat) + (1 : Nat) + (1 : Nat) + (1 : Nat)) : Int)) (none) (cond (eqI i6 (↑((0 : Nat) + (1 : Nat) + (1 : Nat) + (1 : Nat) + (1 : Nat)) : Int)) (A_10 ((wr ((↑((0 : Nat) + (1 : Nat) + (1 : Nat) + (1 : Nat) + (1 : Nat)) : Int) + (1 : Int)))) (ob0) (Row.mk (ob1.q0) (ob1.q1) (ob1.q2) (ob1.q3) (ob0.q4) (ob1.q5) (ob1.q6) (ob1.q7) ob1.w0 ob1.w1 ob1.w2) ob2) (cond (eqI i6 (↑((0 : Nat) + (1 : Nat) + (1 : Nat) + (1 : Nat) + (1 : Nat) + (1 : Nat)) : Int)) (none) (cond (eqI i6 (↑((0 : Nat) + (1 : Nat) + (1 : Nat) + (1 : Nat) + (1 : Nat) + (1 : Nat) + (1 : Nat)) : Int)) (none) (must (eqI i6 (↑((0 : Nat) + (1 : Nat) + (1 : Nat) + (1 : Nat) + (1 : Nat) + (1 : Nat) + (1 : Nat) + (1 : Nat)) : Int)) (none))))))))))))))) (zl5 N N (0 : Int) (ob1) ob2)
theorem zrc : zlM = zl6 := by
  (repeat (apply funext; intro _))
  simp only [zlM, zl6, hide_eq, zrb, zaf, zah, zai, zag, zal, zao, zaO, zav]
def zi9 (N n : Nat) (i6 : Int) (ob0 : Stp) (ob1 : Row) (ob2 : List Int) : Option (List Row × Int × Unit) :=
  zaq (fun A x => zl6 N (fun i6 ob0 ob1 ob2 => A (((), ((), ((), (i6, ())))), (ob0, (ob1, (ob2, ()))))) x.1.2.2.2.1 x.2.1 x.2.2.1 x.2.2.2.1) n (((), ((), ((), (i6, ())))), (ob0, (ob1, (ob2, ()))))
theorem zrd : zlN = zi9 := by
  (repeat (apply funext; intro _))
  simp only [zlN, zi9, zrc, zaf, zah, zai, zag, zal, zao, zaO, zav]
def q197 (N : Nat) (s0 : Stp) : Option (List Row × Int × Unit) :=
  cond ((eqI s0.kind (1 : Int))) (cond ((eqI s0.kind (1 : Int))) (some (([], (0 : Int), ()))) (cond ((eqI s0.kind (2 : Int))) (zi9 N N (0 : Int) (s0) (Row.mk (Fr.zero) (Fr.zero) (Fr.zero) (Fr.zero) (Fr.zero) (Fr.zero) (Fr.zero) (Fr.zero) (-1 : Int) (-1 : Int) (-1 : Int)) ([Stp.v0 s0, Stp.v1 s0, Stp.v2 s0])) (cond ((eqI s0.kind (3 : Int))) (Option.bind (q218 N) fun rr7 => some (([Row.mk (Fr.zero) (Fr.zero) (Fr.zero) (Fr.zero) (Fr.zero) (rr7.1) (Fr.zero) (Fr.zero) s0.v0 (-1 : Int) (-1 : Int)], (0 : Int), ()))) (cond ((eqI s0.kind (4 : Int))) (Option.bind (q218 N) fun rr6 => some (([Row.mk (Fr.zero) (Fr.zero) (Fr.zero) (Fr.zero) (Fr.zero) (Fr.zero) (rr6.1) (Fr.zero) s0.v0 (-1 : Int) s0.v2], (0 : Int), ()))) (cond ((eqI s0.kind (7 : Int))) (Option.bind (q218 N) fun rr5 => some (([Row.mk (Fr.zero) (rr5.1) (Fr.zero) (Fr.zero) (Fr.zero) (Fr.zero) (Fr.zero) (Fr.zero) s0.v0 (-1 : Int) (-1 : Int)], (0 : Int), ()))) (cond ((eqI s0.kind (5 : Int))) (Option.bind (q218 N) fun rr4 => some (([Row.mk (Fr.zero) (Fr.zero) (Fr.zero) (Fr.zero) (Fr.zero) (Fr.zero) (Fr.zero) (rr4.1) s0.v0 s0.v1 (-1 : Int), Row.mk (Fr.zero) (Fr.zero) (Fr.zero) (Fr.zero) (Fr.zero) (Fr.zero) (Fr.zero) (Fr.zero) s0.v2 (-1 : Int) (-1 : Int)], (0 : Int), ()))) (some (([], (11 : Int), ()))))))))) (cond ((eqI s0.kind (6 : Int))) (some (([], (0 : Int), ()))) (cond ((eqI s0.kind (2 : Int))) (zi9 N N (0 : Int) (s0) (Row.mk (Fr.zero) (Fr.zero) (Fr.zero) (Fr.zero) (Fr.zero) (Fr.zero) (Fr.zero) (Fr.zero) (-1 : Int) (-1 : Int) (-1 : Int)) ([Stp.v0 s0, Stp.v1 s0, Stp.v2 s0])) (cond ((eqI s0.kind (3 : Int))) (Option.bind (q218 N) fun rr3 => some (([Row.mk (Fr.zero) (Fr.zero) (Fr.zero) (Fr.zero) (Fr.zero) (rr3.1) (Fr.zero) (Fr.zero) s0.v0 (-1 : Int) (-1 : Int)], (0 : Int), ()))) (cond ((eqI s0.kind (4 : Int))) (Option.bind (q218 N) fun rr2 => some (([Row.mk (Fr.zero) (Fr.zero) (Fr.zero) (Fr.zero) (Fr.zero) (Fr.zero) (rr2.1) (Fr.zero) s0.v0 (-1 : Int) s0.v2], (0 : Int), ()))) (cond ((eqI s0.kind (7 : Int))) (Option.bind (q218 N) fun rr1 => some (([Row.mk (Fr.zero) (rr1.1) (Fr.zero) (Fr.zero) (Fr.zero) (Fr.zero) (Fr.zero) (Fr.zero) s0.v0 (-1 : Int) (-1 : Int)], (0 : Int), ()))) (cond ((eqI s0.kind (5 : Int))) (Option.bind (q218 N) fun rr0 => some (([Row.mk (Fr.zero) (Fr.zero) (Fr.zero) (Fr.zero) (Fr.zero) (Fr.zero) (Fr.zero) (rr0.1) s0.v0 s0.v1 (-1 : Int), Row.mk (Fr.zero) (Fr.zero) (Fr.zero) (Fr.zero) (Fr.zero) (Fr.zero) (Fr.zero) (Fr.zero) s0.v2 (-1 : Int) (-1 : Int)], (0 : Int), ()))) (some (([], (11 : Int), ())))))))))
theorem zy0 : p197 = q197 := by
  (repeat (apply funext; intro _))
  simp only [p197, q197, hide_eq, zrd, zyZ, zaf, zah, zai, zag, zal, zao, zaO, zav]
end
end Go.Proofs.Ytgimohchocjgcaa.V
