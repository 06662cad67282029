import Derived.Test.YtgimohchocjgcaaVTJ2
import Derived.Test.YtgimohchocjgcaaVOT
import Derived.KernelRfl
set_option linter.unusedVariables false
set_option linter.unusedSimpArgs false
namespace Go.Proofs.Ytgimohchocjgcaa.V
set_option maxRecDepth 100000 in
theorem m46_18_out (n : Nat) (z : List UInt8) (a b c d e f g i : UInt32) : m46_18 (n + 40) (n + 40) 0 z [a, b, c, d, e, f, g, i] (List.replicate 32 0) = some (outB [a, b, c, d, e, f, g, i], ()) := by kernel_rfl
theorem m46_11_eq (z x : List UInt8) (hx : x.length < 1000000) : ∀ (k n i : Nat) (h : List UInt32), i + 64 * k = x.length → k < n → h.length = 8 → m46_11 2000 n (i : Int) x z h tabK = some (outB (foldB k h (x.drop i)), ()) := by
  intro k
  induction k with
  | zero =>
    intro n i h hi hn hh
    obtain ⟨n, rfl⟩ : ∃ m, n = m + 1 := ⟨n - 1, by omega⟩
    rw [m46_11_succ]
    unfold c46_11
    rw [ltI_false (by omega), cond_false]
    obtain ⟨a, b, c, d, e, f, g, i, rfl⟩ := list8 hh
    exact m46_18_out 1960 z a b c d e f g i
  | succ k ih =>
    intro n i h hi hn hh
    obtain ⟨n, rfl⟩ : ∃ m, n = m + 1 := ⟨n - 1, by omega⟩
    have hbl : ((x.drop i).take 64).length = 64 := by simp; omega
    have e1 : wr ((i : Int) + 64) = ((i + 64 : Nat) : Int) := by rw [wr_id (by omega) (by omega)]; omega
    rw [m46_11_succ]
    unfold c46_11
    rw [ltI_true (by omega), cond_true, e1, leI_zero, leI_true (by omega), leI_true (by omega), Bool.and_self, Bool.and_self, must_1, show Int.toNat (((i + 64 : Nat) : Int) - (i : Int)) = 64 by omega, Int.toNat_natCast]
    have e2 := splice_all (List.replicate 64 0) ((x.drop i).take 64) rfl hbl
    have e3 : ∀ t, t = List.take 64 (x.drop i) → q152 2000 h t tabK = some (blk h ((x.drop i).take 64), ()) := fun t ht => by rw [ht]; exact q152_eq (by omega) hh hbl
    refine Eq.trans (congrArg (fun t => Option.bind t _) (e3 _ e2)) ?_
    simp only [Option.bind_some, blk_len hh]
    rw [show Nat.beq 8 8 = true from rfl, must_1, ih n (i + 64) _ (by omega) (by omega) (blk_len hh)]
    simp only [foldB, List.drop_drop]
theorem w8 (k : Nat) (hk : k < 1000) : wr ((8 : Int) * (k : Int)) = ((8 * k : Nat) : Int) := by rw [wr_id (by omega) (by omega)]; omega
theorem u8k (k : Nat) (hk : k < 1000) : UInt64.toNat (UInt64.ofNat (Int.toNat ((8 * k : Nat) : Int))) = 8 * k := by
  rw [Int.toNat_natCast, UInt64.toNat_ofNat', Nat.mod_eq_of_lt (by omega)]
theorem m46_6_step (n k : Nat) (v : UInt64) (x z : List UInt8) (hk : k < 1000) (hx : x.length < 100000000) : m46_6 2000 (n + 1) v (k : Int) x z = m46_6 2000 n v ((k : Int) - 1) (x ++ [UInt8.ofNat (shr64 v (8 * k)).toNat]) z := by
  rw [m46_6_succ]
  unfold c46_6
  rw [leI_zero, cond_true, w8 k hk, leI_zero, must_1, ltI_true (by omega), must_1, wr_id (by omega) (by omega), u8k k hk, leN_true (by simp; omega), must_1]
theorem m46_6_eq (v : UInt64) (x : List UInt8) (hx : x.length < 100000) (h64 : (x.length + 8) % 64 = 0) : m46_6 2000 2000 v 7 x (List.replicate 32 0) = some (outB (foldB ((x ++ len8 v).length / 64) initH (x ++ len8 v)), ()) := by
  have e : m46_6 2000 (1991 + 9) v 7 x (List.replicate 32 0) = some (outB (foldB ((x ++ len8 v).length / 64) initH (x ++ len8 v)), ()) := by
    have s1 := m46_6_step (1991 + 8) 7 v x (List.replicate 32 0) (by omega) (by omega)
    have s2 := fun x h => m46_6_step (1991 + 7) 6 v x (List.replicate 32 0) (by omega) h
    have s3 := fun x h => m46_6_step (1991 + 6) 5 v x (List.replicate 32 0) (by omega) h
    have s4 := fun x h => m46_6_step (1991 + 5) 4 v x (List.replicate 32 0) (by omega) h
    have s5 := fun x h => m46_6_step (1991 + 4) 3 v x (List.replicate 32 0) (by omega) h
    have s6 := fun x h => m46_6_step (1991 + 3) 2 v x (List.replicate 32 0) (by omega) h
    have s7 := fun x h => m46_6_step (1991 + 2) 1 v x (List.replicate 32 0) (by omega) h
    have s8 := fun x h => m46_6_step (1991 + 1) 0 v x (List.replicate 32 0) (by omega) h
    refine s1.trans ((s2 _ (by simp; omega)).trans ((s3 _ (by simp; omega)).trans ((s4 _ (by simp; omega)).trans ((s5 _ (by simp; omega)).trans ((s6 _ (by simp; omega)).trans ((s7 _ (by simp; omega)).trans ((s8 _ (by simp; omega)).trans ?_)))))))
    rw [m46_6_succ]
    unfold c46_6
    rw [leI_false (by omega), cond_false, first_is, rounds_is]
    simp only [Option.bind_some]
    rw [show Nat.beq (List.length initH) 8 = true from rfl, must_1, show Nat.beq (List.length tabK) 64 = true from by decide +kernel, must_1]
    have hxl : x ++ [UInt8.ofNat (shr64 v (8 * 7)).toNat] ++ [UInt8.ofNat (shr64 v (8 * 6)).toNat] ++ [UInt8.ofNat (shr64 v (8 * 5)).toNat] ++ [UInt8.ofNat (shr64 v (8 * 4)).toNat] ++ [UInt8.ofNat (shr64 v (8 * 3)).toNat] ++ [UInt8.ofNat (shr64 v (8 * 2)).toNat] ++ [UInt8.ofNat (shr64 v (8 * 1)).toNat] ++ [UInt8.ofNat (shr64 v (8 * 0)).toNat] = x ++ len8 v := by simp [len8]
    rw [hxl]
    have hl : (x ++ len8 v).length = x.length + 8 := by simp [len8]
    exact m46_11_eq _ _ (by omega) ((x ++ len8 v).length / 64) 2000 0 initH (by omega) (by omega) rfl
  exact e
theorem m46_3_eq (v : UInt64) : ∀ (z n : Nat) (x : List UInt8), (x.length + z) % 64 = 56 → z < 64 → z < n → x.length + z < 90000 → m46_3 2000 n v x (List.replicate 32 0) = some (outB (foldB ((x ++ List.replicate z 0 ++ len8 v).length / 64) initH (x ++ List.replicate z 0 ++ len8 v)), ()) := by
  intro z
  induction z with
  | zero =>
    intro n x h1 h2 hn hx
    obtain ⟨n, rfl⟩ : ∃ m, n = m + 1 := ⟨n - 1, by omega⟩
    rw [m46_3_succ]
    unfold c46_3
    rw [tmod64, decide_eq_true (by omega), Bool.not_true, cond_false, m46_6_eq v x (by omega) (by omega)]
    simp
  | succ z ih =>
    intro n x h1 h2 hn hx
    obtain ⟨n, rfl⟩ : ∃ m, n = m + 1 := ⟨n - 1, by omega⟩
    rw [m46_3_succ]
    unfold c46_3
    rw [tmod64, decide_eq_false (by omega), Bool.not_false, cond_true, leN_true (by simp; omega), must_1, ih n _ (by simp; omega) (by omega) (by omega) (by simp; omega)]
    simp [List.replicate_succ]
theorem q46_eq {b : List UInt8} (hb : b.length < 60000) : q46 2000 b = some (digest b, ()) := by
  unfold q46
  rw [leN_true (by omega), must_1, leN_true (by simp; omega), must_1]
  exact m46_3_eq _ (padZ b.length) 2000 (b ++ [128]) (by unfold padZ; simp; omega) (by unfold padZ; omega) (by unfold padZ; omega) (by unfold padZ; simp; omega)
theorem q109_eq {name : List UInt8} (hn : name.length < 40000) : q109 2000 name = some ((), digest ([0] ++ name), ()) := by
  unfold q109
  rw [leN_true (by simp; omega), must_1, q46_eq (by simp; omega)]
  simp only [bsm, digest_len]
  rfl
theorem q110_eq {s : List UInt8} {tag : UInt8} (hs : s.length = 32) : q110 2000 s tag = some (askS s tag, askF s tag, ()) := by
  unfold q110
  rw [take32 hs, leN_true (by omega), must_1, must_1, leN_true (by simp; omega), must_1, q46_eq (by simp; omega)]
  simp only [bsm, digest_len]
  rw [show Nat.beq 32 32 = true from rfl, must_1, must_1, leN_true (by simp; omega), must_1, q46_eq (by simp; omega)]
  simp only [bsm, digest_len]
  rw [show Nat.beq 32 32 = true from rfl, must_1, must_1, leN_true (by simp; omega), must_1, q46_eq (by simp; omega)]
  simp only [bsm, digest_len]
  rw [show Nat.beq 32 32 = true from rfl, must_1, take32 (digest_len _), take32 (digest_len _), digest_len, digest_len]
  rw [leN_true (by omega), must_1, leN_true (by omega), must_1, q127_eq (by simp [digest_len])]
  rfl
theorem m111_2_step (n k : Nat) (b s x : List UInt8) (hk : k < 1000) (hx : x.length < 100000000) : m111_2 2000 (n + 1) b (k : Int) s x = m111_2 2000 n b ((k : Int) - 1) s (x ++ [UInt8.ofNat (shr64 (u64I (b.length : Int)) (8 * k)).toNat]) := by
  rw [m111_2_succ]
  unfold c111_2
  rw [leI_zero, cond_true, w8 k hk, leI_zero, must_1, ltI_true (by omega), must_1, wr_id (by omega) (by omega), u8k k hk, leN_true (by simp; omega), must_1]
theorem q111_eq {s b : List UInt8} {tag : UInt8} (hs : s.length = 32) (hb : b.length < 40000) : q111 2000 s tag b = some (tellS s tag b, ()) := by
  have e : m111_2 2000 (1991 + 9) b 7 s (s ++ [1, tag]) = some (tellS s tag b, ()) := by
    have s1 := m111_2_step (1991 + 8) 7 b s (s ++ [1, tag]) (by omega) (by simp; omega)
    have s2 := fun x h => m111_2_step (1991 + 7) 6 b s x (by omega) h
    have s3 := fun x h => m111_2_step (1991 + 6) 5 b s x (by omega) h
    have s4 := fun x h => m111_2_step (1991 + 5) 4 b s x (by omega) h
    have s5 := fun x h => m111_2_step (1991 + 4) 3 b s x (by omega) h
    have s6 := fun x h => m111_2_step (1991 + 3) 2 b s x (by omega) h
    have s7 := fun x h => m111_2_step (1991 + 2) 1 b s x (by omega) h
    have s8 := fun x h => m111_2_step (1991 + 1) 0 b s x (by omega) h
    refine s1.trans ((s2 _ (by simp; omega)).trans ((s3 _ (by simp; omega)).trans ((s4 _ (by simp; omega)).trans ((s5 _ (by simp; omega)).trans ((s6 _ (by simp; omega)).trans ((s7 _ (by simp; omega)).trans ((s8 _ (by simp; omega)).trans ?_)))))))
    rw [m111_2_succ]
    unfold c111_2
    rw [leI_false (by omega), cond_false, leN_true (by simp; omega), must_1, q46_eq (by simp; omega)]
    simp only [bsm, digest_len]
    simp [must_1, must, tellS, len8]
  unfold q111
  rw [take32 hs, leN_true (by omega), must_1, leN_true (by simp; omega), must_1]
  exact e
theorem askF_sc (s : List UInt8) (tag : UInt8) : decide (fv (askF s tag) < RR) = true := by
  unfold askF
  rw [fv_frN' (mod_lt_RR _)]
  exact decide_eq_true (mod_lt_RR _)
theorem nil_tell : q1000103 2000 1 [] = some () := by kernel_rfl
theorem nil_ask : q1000102 2000 1 = some (Fr.zero, ()) := by kernel_rfl
theorem nil_state : q1000104 2000 = some (List.replicate 32 0, ()) := by kernel_rfl
theorem eqz32 : eqL El.u8 (@List.replicate UInt8 32 (0 : UInt8)) [(0 : UInt8), (0 : UInt8), (0 : UInt8), (0 : UInt8), (0 : UInt8), (0 : UInt8), (0 : UInt8), (0 : UInt8), (0 : UInt8), (0 : UInt8), (0 : UInt8), (0 : UInt8), (0 : UInt8), (0 : UInt8), (0 : UInt8), (0 : UInt8), (0 : UInt8), (0 : UInt8), (0 : UInt8), (0 : UInt8), (0 : UInt8), (0 : UInt8), (0 : UInt8), (0 : UInt8), (0 : UInt8), (0 : UInt8), (0 : UInt8), (0 : UInt8), (0 : UInt8), (0 : UInt8), (0 : UInt8), (0 : UInt8)] = true := rfl
theorem zl32 : [(0 : UInt8), (0 : UInt8), (0 : UInt8), (0 : UInt8), (0 : UInt8), (0 : UInt8), (0 : UInt8), (0 : UInt8), (0 : UInt8), (0 : UInt8), (0 : UInt8), (0 : UInt8), (0 : UInt8), (0 : UInt8), (0 : UInt8), (0 : UInt8), (0 : UInt8), (0 : UInt8), (0 : UInt8), (0 : UInt8), (0 : UInt8), (0 : UInt8), (0 : UInt8), (0 : UInt8), (0 : UInt8), (0 : UInt8), (0 : UInt8), (0 : UInt8), (0 : UInt8), (0 : UInt8), (0 : UInt8), (0 : UInt8)] = List.replicate 32 0 := rfl
set_option maxRecDepth 100000 in
theorem m26_7_eq (l : List Tn) (hl : l.length ≤ 12) (hlb : ∀ j, j < l.length → (l.getD j Tn.zero).b.length ≤ 200) : ∀ (k n i : Nat) (s : List UInt8), i + k = l.length → k < n → s.length = 32 → m26_7 2000 n l (i : Int) s s = some (true, ()) := by
  intro k
  induction k with
  | zero =>
    intro n i s hi hn hs
    obtain ⟨n, rfl⟩ : ∃ m, n = m + 1 := ⟨n - 1, by omega⟩
    have hz : (List.replicate 32 (0 : UInt8)).length = 32 := rfl
    have h1 := q102_eq (s := List.replicate 32 0) (tag := 3) hz
    have h2 := q110_eq (s := List.replicate 32 0) (tag := 3) hz
    rw [m26_7_succ]
    unfold c26_7
    rw [ltI_false (by omega), cond_false, nil_tell]
    simp only [bsm]
    rw [nil_ask]
    simp only [bsm]
    rw [show eqF Fr.zero (Fr.mk (0 : UInt64) 0 0 0) = true from decide_eq_true rfl, cond_true, nil_state]
    simp only [bsm]
    rw [zl32]
    simp only [List.length_replicate]
    rw [show (Nat.beq 32 32 && Nat.beq 32 32) = true from rfl, must_1, eqz32, cond_true]
    rw [h1]
    simp only [bsm, askS_len]
    rw [show Nat.beq 32 32 = true from rfl, must_1, h2]
    simp only [bsm, askS_len]
    rw [show Nat.beq 32 32 = true from rfl, must_1, eqF_self]
  | succ k ih =>
    intro n i s hi hn hs
    obtain ⟨n, rfl⟩ : ∃ m, n = m + 1 := ⟨n - 1, by omega⟩
    have hbi := hlb i (by omega)
    rw [m26_7_succ]
    unfold c26_7
    rw [ltI_true (by omega), cond_true, leI_zero, show (true && true) = true from rfl, must_1, Int.toNat_natCast, wr_id (by omega) (by omega)]
    cases ha : (l.getD i Tn.zero).ask with
    | true =>
      rw [cond_true, must_1, q102_eq hs]
      simp only [bsm, askS_len, hs]
      rw [show Nat.beq 32 32 = true from rfl, must_1, must_1, q110_eq hs]
      simp only [bsm, askS_len, hs]
      rw [show Nat.beq 32 32 = true from rfl, must_1, eqF_self, Bool.not_true, cond_false, q69_eq (by omega)]
      simp only [bsm]
      rw [askF_sc, Bool.not_true, cond_false, q104_eq (askS_len _ _)]
      simp only [bsm, askS_len]
      rw [show Nat.beq 32 32 = true from rfl, must_1, show (true && true) = true from rfl, must_1, eqL8_self, Bool.not_true, cond_false]
      exact ih n (i + 1) _ (by omega) (by omega) (askS_len _ _)
    | false =>
      rw [cond_false, must_1, must_1, q103_eq hs (by omega)]
      simp only [bsm, tellS_len, hs, must_1]
      rw [show Nat.beq 32 32 = true from rfl, must_1, q111_eq hs (by omega)]
      simp only [bsm, tellS_len, hs, must_1]
      rw [show Nat.beq 32 32 = true from rfl, must_1, q104_eq (tellS_len _ _ _)]
      simp only [bsm, tellS_len]
      rw [show Nat.beq 32 32 = true from rfl, must_1, show (true && true) = true from rfl, must_1, eqL8_self, Bool.not_true, cond_false]
      exact ih n (i + 1) _ (by omega) (by omega) (tellS_len _ _ _)
theorem talkAll_plain (name : List UInt8) (l : List Tn) : q26 2000 name l = some (true, ()) := by
  unfold q26
  rw [talk_begun]
  simp only [bsm, Bool.not_true, cond_false]
  by_cases hn : (100 : Int) < (name.length : Int)
  · rw [ltI_true hn, cond_true]
  rw [ltI_false hn, cond_false]
  obtain ⟨r, h1, h2⟩ := q100_eq l
  rw [h1]
  simp only [bsm]
  cases r with
  | false => rfl
  | true =>
    obtain ⟨h3, h4⟩ := h2 rfl
    rw [Bool.not_true, cond_false, q101_eq (by omega), q109_eq (by omega)]
    simp only [bsm]
    exact m26_7_eq l h3 h4 l.length 2000 0 _ (by omega) (by omega) (digest_len _)
end Go.Proofs.Ytgimohchocjgcaa.V
