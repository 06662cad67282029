import Derived.Test.YtgimohchocjgcaaVSP
import Derived.KernelRfl
set_option linter.unusedVariables false
set_option linter.unusedSimpArgs false
namespace Go.Proofs.Ytgimohchocjgcaa.V
def foldB : Nat → List UInt32 → List UInt8 → List UInt32
  | 0, h, _ => h
  | k + 1, h, l => foldB k (blk h (l.take 64)) (l.drop 64)
def bytH (h : List UInt32) (i : Nat) : UInt8 := UInt8.ofNat (shr32 (h.getD (i / 4) 0) (24 - 8 * (i % 4))).toNat
def outB (h : List UInt32) : List UInt8 := (List.range 32).map (bytH h)
theorem outB_len (h : List UInt32) : (outB h).length = 32 := by simp [outB]
def len8 (n : UInt64) : List UInt8 := [56, 48, 40, 32, 24, 16, 8, 0].map fun s => UInt8.ofNat (shr64 n s).toNat
def padZ (L : Nat) : Nat := (119 - L % 64) % 64
def padded (b : List UInt8) : List UInt8 := b ++ [128] ++ List.replicate (padZ b.length) 0 ++ len8 (u64I (b.length : Int) * 8)
theorem padded_len (b : List UInt8) : (padded b).length = b.length + 1 + padZ b.length + 8 := by simp [padded, len8]; omega
def digest (b : List UInt8) : List UInt8 := outB (foldB ((padded b).length / 64) initH (padded b))
theorem m150_6_step (N n s : Nat) (v : UInt64) (x : List UInt8) (hs : s < 1000) (hx : x.length < 100000000) : m150_6 N (n + 1) v (s : Int) x = m150_6 N n v ((s : Int) - 8) (x ++ [UInt8.ofNat (shr64 v s).toNat]) := by
  rw [m150_6_succ]
  unfold c150_6
  rw [leI_zero, cond_true, wr_id (by omega) (by omega), u64I_nat (by omega), leN_true (by simp; omega), must_1]
theorem m150_6_eq {N : Nat} (hN : 100 < N) (v : UInt64) (x : List UInt8) (hx : x.length < 10000000) : m150_6 N N v 56 x = some (x ++ len8 v, ()) := by
  obtain ⟨n, hn⟩ : ∃ n, N = n + 9 := ⟨N - 9, by omega⟩
  have e : m150_6 N (n + 9) v 56 x = some (x ++ len8 v, ()) := by
    have s1 := m150_6_step N (n + 8) 56 v x (by omega) (by omega)
    have s2 := fun x h => m150_6_step N (n + 7) 48 v x (by omega) h
    have s3 := fun x h => m150_6_step N (n + 6) 40 v x (by omega) h
    have s4 := fun x h => m150_6_step N (n + 5) 32 v x (by omega) h
    have s5 := fun x h => m150_6_step N (n + 4) 24 v x (by omega) h
    have s6 := fun x h => m150_6_step N (n + 3) 16 v x (by omega) h
    have s7 := fun x h => m150_6_step N (n + 2) 8 v x (by omega) h
    have s8 := fun x h => m150_6_step N (n + 1) 0 v x (by omega) h
    refine s1.trans ((s2 _ (by simp; omega)).trans ((s3 _ (by simp; omega)).trans ((s4 _ (by simp; omega)).trans ((s5 _ (by simp; omega)).trans ((s6 _ (by simp; omega)).trans ((s7 _ (by simp; omega)).trans ((s8 _ (by simp; omega)).trans ?_)))))))
    rw [m150_6_succ]
    unfold c150_6
    rw [leI_false (by omega), cond_false]
    simp [len8]
  rw [← hn] at e
  exact e
theorem tmod64 (L : Nat) : eqI (Int.tmod (L : Int) 64) 56 = decide (L % 64 = 56) := by
  have : Int.tmod (L : Int) 64 = ((L % 64 : Nat) : Int) := by rw [Int.tmod_eq_emod_of_nonneg (by omega)]; omega
  rw [this]
  exact eqI_nat _ _
theorem m150_2_eq {N : Nat} (hN : 100 < N) (b : List UInt8) : ∀ (z n : Nat) (x : List UInt8), (x.length + z) % 64 = 56 → z < 64 → z < n → x.length + z < 1000000 → m150_2 N n b x = some (x ++ List.replicate z 0 ++ len8 (u64I (b.length : Int) * 8), ()) := by
  intro z
  induction z with
  | zero =>
    intro n x h1 h2 hn hx
    obtain ⟨n, rfl⟩ : ∃ m, n = m + 1 := ⟨n - 1, by omega⟩
    rw [m150_2_succ]
    unfold c150_2
    rw [tmod64, decide_eq_true (by omega), m150_6_eq hN _ _ (by omega)]
    simp
  | succ z ih =>
    intro n x h1 h2 hn hx
    obtain ⟨n, rfl⟩ : ∃ m, n = m + 1 := ⟨n - 1, by omega⟩
    rw [m150_2_succ]
    unfold c150_2
    rw [tmod64, decide_eq_false (by omega), Bool.not_false, cond_true, leN_true (by simp; omega), must_1, ih n _ (by simp; omega) (by omega) (by omega) (by simp; omega)]
    simp [List.replicate_succ]
theorem q150_eq {N : Nat} (hN : 100 < N) {b : List UInt8} (hb : b.length < 100000) : q150 N b = some (padded b, ()) := by
  unfold q150
  rw [leN_true (by omega), leN_true (by simp; omega), must_1, must_1, m150_2_eq hN b (padZ b.length) N _ (by unfold padZ; simp; omega) (by unfold padZ; omega) (by unfold padZ; omega) (by unfold padZ; simp; omega)]
  rfl
set_option maxRecDepth 100000 in
theorem m42_8_out (n : Nat) (z : List UInt8) (a b c d e f g i : UInt32) : m42_8 (n + 9) (n + 9) [a, b, c, d, e, f, g, i] 0 z (List.replicate 32 0) = some (outB [a, b, c, d, e, f, g, i], ()) := by kernel_rfl
theorem m42_3_eq {N : Nat} (hN : 100 < N) (z l : List UInt8) : ∀ (k n f : Nat) (h : List UInt32), f + 64 * k = l.length → k < n → h.length = 8 → l.length < 1000000 → m42_3 N n f (64 * k) z h l = some (outB (foldB k h (l.drop f)), ()) := by
  intro k
  induction k with
  | zero =>
    intro n f h hf hn hh hl
    obtain ⟨n, rfl⟩ : ∃ m, n = m + 1 := ⟨n - 1, by omega⟩
    rw [m42_3_succ]
    unfold c42_3
    rw [ltI_false (by omega), cond_false]
    obtain ⟨a, b, c, d, e, f, g, i, rfl⟩ := list8 hh
    obtain ⟨n, rfl⟩ : ∃ n, N = n + 9 := ⟨N - 9, by omega⟩
    exact m42_8_out n z a b c d e f g i
  | succ k ih =>
    intro n f h hf hn hh hl
    obtain ⟨n, rfl⟩ : ∃ m, n = m + 1 := ⟨n - 1, by omega⟩
    have hb : ((l.drop f).take 64).length = 64 := by simp; omega
    rw [m42_3_succ]
    unfold c42_3
    rw [ltI_true (by omega), cond_true, leI_true (by omega), must_1, show f + Int.toNat 0 = f from rfl, leN_true (by omega), must_1, q48_eq hN hh hb]
    simp only [Option.bind_some, blk_len hh]
    rw [leI_true (by omega), Bool.and_self, must_1, show Nat.beq 8 8 = true from rfl, must_1]
    rw [show Int.toNat (((64 * (k + 1) : Nat) : Int) - 64) = 64 * k by omega, show f + Int.toNat 64 = f + 64 from rfl, ih n (f + 64) _ (by omega) (by omega) (blk_len hh) hl]
    simp only [foldB, List.drop_drop]
theorem q42_eq {N : Nat} (hN : 1000 < N) {b : List UInt8} (hb : b.length < 60000) : q42 N b = some (digest b, ()) := by
  have h64 : (padded b).length = 64 * ((padded b).length / 64) := by rw [padded_len]; unfold padZ; omega
  unfold q42
  rw [begin_is, q150_eq (by omega) (by omega)]
  simp only [Option.bind_some]
  rw [show Nat.beq (List.length initH) 8 = true from rfl, must_1]
  have e := m42_3_eq (by omega : 100 < N) (List.replicate 32 0) (padded b) ((padded b).length / 64) N 0 initH (by omega) (by rw [padded_len]; unfold padZ; omega) rfl (by rw [padded_len]; unfold padZ; omega)
  rw [← h64] at e
  exact e
theorem digest_len (b : List UInt8) : (digest b).length = 32 := outB_len _
theorem splice_all (z s : List UInt8) (hz : z.length = 64) (hs : s.length = 64) : splice z (Int.toNat 0) (List.take (Int.toNat (((64 : Nat) : Int) - 0)) s) = s := by
  rw [show Int.toNat (((64 : Nat) : Int) - 0) = 64 from rfl, show Int.toNat 0 = 0 from rfl, List.take_of_length_le (by omega)]
  unfold splice
  rw [List.take_zero, List.drop_of_length_le (by omega)]
  simp
end Go.Proofs.Ytgimohchocjgcaa.V
