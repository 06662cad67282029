import Derived.Test.YtgimohchocjgcaaVTK2
import Derived.Test.YtgimohchocjgcaaVOT
import Derived.KernelRfl
set_option linter.unusedVariables false
set_option linter.unusedSimpArgs false
namespace Go.Proofs.Ytgimohchocjgcaa.V
theorem eqL8_self (l : List UInt8) : eqL El.u8 l l = true := by
  induction l with
  | nil => rfl
  | cons x l ih =>
    show (eq8 x x && eqL El.u8 l l) = true
    rw [ih, Bool.and_true]
    simp [eq8]
theorem take32 {s : List UInt8} (hs : s.length = 32) : List.take (Int.toNat ((↑(32 : Nat) : Int) - (0 : Int))) s = s := by
  rw [show Int.toNat ((↑(32 : Nat) : Int) - (0 : Int)) = 32 from rfl]
  exact List.take_of_length_le (by omega)
theorem q191_eq {s b : List UInt8} (hs : s.length = 32) (hb : b.length < 50000) : q191 2000 s b = some (s, digest (s ++ b), ()) := by
  unfold q191
  rw [take32 hs, leN_true (by omega), leN_true (by omega), must_1, must_1, q42_eq (by omega) (by simp; omega)]
  simp only [bsm, digest_len]
  rfl
theorem q104_eq {s : List UInt8} (hs : s.length = 32) : q104 2000 s = some (s, s, ()) := by
  unfold q104
  rw [cond_false, hs]
  rfl
def tellS (s : List UInt8) (tag : UInt8) (b : List UInt8) : List UInt8 := digest (s ++ (([1, tag] ++ len8 (u64I (b.length : Int))) ++ b))
def askS (s : List UInt8) (tag : UInt8) : List UInt8 := digest (s ++ [3, tag])
def askF (s : List UInt8) (tag : UInt8) : Fr := frN (bv (digest (s ++ [2, tag, 0]) ++ digest (s ++ [2, tag, 1])) % RR)
theorem tellS_len (s : List UInt8) (tag : UInt8) (b : List UInt8) : (tellS s tag b).length = 32 := digest_len _
theorem askS_len (s : List UInt8) (tag : UInt8) : (askS s tag).length = 32 := digest_len _
theorem m103_3_step (N n k : Nat) (b s x : List UInt8) (hk : k < 1000) (hx : x.length < 100000000) : m103_3 N (n + 1) b (k : Int) s x = m103_3 N n b ((k : Int) - 8) s (x ++ [UInt8.ofNat (shr64 (u64I (b.length : Int)) k).toNat]) := by
  rw [m103_3_succ]
  unfold c103_3
  rw [leI_zero, cond_true, wr_id (by omega) (by omega), u64I_nat (by omega), leN_true (by simp; omega), must_1]
theorem q103_eq {s b : List UInt8} {tag : UInt8} (hs : s.length = 32) (hb : b.length < 40000) : q103 2000 s tag b = some (tellS s tag b, ()) := by
  have e : m103_3 2000 (1991 + 9) b 56 s [1, tag] = some (tellS s tag b, ()) := by
    have s1 := m103_3_step 2000 (1991 + 8) 56 b s [1, tag] (by omega) (by simp)
    have s2 := fun x h => m103_3_step 2000 (1991 + 7) 48 b s x (by omega) h
    have s3 := fun x h => m103_3_step 2000 (1991 + 6) 40 b s x (by omega) h
    have s4 := fun x h => m103_3_step 2000 (1991 + 5) 32 b s x (by omega) h
    have s5 := fun x h => m103_3_step 2000 (1991 + 4) 24 b s x (by omega) h
    have s6 := fun x h => m103_3_step 2000 (1991 + 3) 16 b s x (by omega) h
    have s7 := fun x h => m103_3_step 2000 (1991 + 2) 8 b s x (by omega) h
    have s8 := fun x h => m103_3_step 2000 (1991 + 1) 0 b s x (by omega) h
    refine s1.trans ((s2 _ (by simp)).trans ((s3 _ (by simp)).trans ((s4 _ (by simp)).trans ((s5 _ (by simp)).trans ((s6 _ (by simp)).trans ((s7 _ (by simp)).trans ((s8 _ (by simp)).trans ?_)))))))
    rw [m103_3_succ]
    unfold c103_3
    rw [leI_false (by omega), cond_false, leN_true (by simp; omega), must_1, q191_eq hs (by simp; omega)]
    simp only [bsm, digest_len]
    rw [show Nat.beq s.length s.length = true from by simp]
    simp [must_1, must, tellS, len8]
  unfold q103
  rw [cond_false]
  exact e
theorem q102_eq {s : List UInt8} {tag : UInt8} (hs : s.length = 32) : q102 2000 s tag = some (askS s tag, askF s tag, ()) := by
  unfold q102
  rw [cond_false, q191_eq hs (by simp)]
  simp only [bsm, digest_len, hs]
  rw [show Nat.beq 32 32 = true from rfl, must_1, q191_eq hs (by simp)]
  simp only [bsm, digest_len, hs]
  rw [show Nat.beq 32 32 = true from rfl, must_1, must_1, must_1, q191_eq hs (by simp)]
  simp only [bsm, digest_len, hs]
  rw [show Nat.beq 32 32 = true from rfl, must_1, must_1, take32 (digest_len _), digest_len]
  rw [show (ltN 0 32 && leN ((Int.toNat ((↑(32 : Nat) : Int) - (0 : Int)) + 32) * 1) 140737488355328) = true from by decide, must_1, q126_eq (by simp [digest_len])]
  rfl
theorem q101_eq {name : List UInt8} (hn : name.length < 40000) : q101 2000 name = some ((), digest ([0] ++ name), ()) := by
  unfold q101
  rw [leN_true (by simp; omega), must_1, q42_eq (by omega) (by simp; omega)]
  simp only [bsm, digest_len]
  rfl
theorem m100_4_eq (l : List Tn) : ∀ (k n i : Nat), i + k = l.length → k < n → l.length < 1000 → ∃ r, m100_4 2000 n l (i : Int) = some (r, ()) ∧ (r = true → ∀ j, i ≤ j → j < l.length → (l.getD j Tn.zero).b.length ≤ 200) := by
  intro k
  induction k with
  | zero =>
    intro n i hi hn hl
    obtain ⟨n, rfl⟩ : ∃ m, n = m + 1 := ⟨n - 1, by omega⟩
    rw [m100_4_succ]
    unfold c100_4
    rw [ltI_false (by omega), cond_false]
    exact ⟨true, rfl, fun _ j h1 h2 => by omega⟩
  | succ k ih =>
    intro n i hi hn hl
    obtain ⟨n, rfl⟩ : ∃ m, n = m + 1 := ⟨n - 1, by omega⟩
    rw [m100_4_succ]
    unfold c100_4
    rw [ltI_true (by omega), cond_true, leI_zero, show (true && true) = true from rfl, must_1, Int.toNat_natCast]
    by_cases hb : (200 : Int) < ((l.getD i Tn.zero).b.length : Int)
    · rw [ltI_true hb, cond_true]
      exact ⟨false, rfl, fun h => by cases h⟩
    · rw [ltI_false hb, cond_false, wr_id (by omega) (by omega)]
      obtain ⟨r, h1, h2⟩ := ih n (i + 1) (by omega) (by omega) hl
      refine ⟨r, by rw [← h1]; rfl, fun hr j hj1 hj2 => ?_⟩
      by_cases hji : j = i
      · subst hji; omega
      · exact h2 hr j (by omega) hj2
theorem q100_eq (l : List Tn) : ∃ r, q100 2000 l = some (r, ()) ∧ (r = true → l.length ≤ 12 ∧ ∀ j, j < l.length → (l.getD j Tn.zero).b.length ≤ 200) := by
  unfold q100
  by_cases h : (12 : Int) < (l.length : Int)
  · rw [ltI_true h, cond_true]
    exact ⟨false, rfl, fun h => by cases h⟩
  · rw [ltI_false h, cond_false]
    obtain ⟨r, h1, h2⟩ := m100_4_eq l l.length 2000 0 (by omega) (by omega) (by omega)
    exact ⟨r, h1, fun hr => ⟨by omega, fun j hj => h2 hr j (Nat.zero_le _) hj⟩⟩
theorem talk_begun : q99 2000 = some (true, ()) := by kernel_rfl
end Go.Proofs.Ytgimohchocjgcaa.V
