/- The document's products of wide numbers, half limb by half limb; the statement LimbAll, of plain functions. -/
import Derived.Test.YtgimohchocjgcaaVLS
set_option linter.unusedVariables false
set_option linter.unusedSimpArgs false
namespace Go.Proofs.Ytgimohchocjgcaa.V

/-- Half limbs. -/
def lh : List UInt64 → Nat
  | [] => 0
  | x :: l => x.toNat + 4294967296 * lh l

def Half (l : List UInt64) : Prop := ∀ x ∈ l, x.toNat < 4294967296

theorem lh_append2 (l : List UInt64) (x y : UInt64) : lh (l ++ [x, y]) = lh l + 4294967296 ^ l.length * (x.toNat + 4294967296 * y.toNat) := by
  induction l with
  | nil => simp [lh]
  | cons z l ih =>
    simp only [List.cons_append, lh, ih, List.length_cons, Nat.pow_succ]
    generalize 4294967296 ^ l.length = p
    generalize x.toNat + 4294967296 * y.toNat = q
    rw [Nat.mul_add, Nat.add_assoc, Nat.mul_comm p 4294967296, Nat.mul_assoc]

theorem pow_half (i : Nat) : (4294967296 : Nat) ^ (2 * i) = 18446744073709551616 ^ i := by
  rw [Nat.pow_mul]

theorem m167_eq (N : Nat) (a : List UInt64) (ha : a.length < 1000000) : ∀ n i : Nat, ∀ out : List UInt64, i ≤ a.length → a.length - i < n → out.length = 2 * i → Half out → lh out = lv (a.take i) →
    ∃ h, m167_3 N n a (i : Int) out = some (h, ()) ∧ h.length = 2 * a.length ∧ Half h ∧ lh h = lv a := by
  intro n
  induction n with
  | zero => intro i out _ h; omega
  | succ n ih =>
    intro i out hi hn hl hh hinv
    rw [m167_3_succ]
    unfold c167_3
    rw [ltI_nat]
    by_cases h : i < a.length
    · rw [ltN_true h, cond_true, leI_zero, must_tt, must_tt, must_t (leN_true (by simp; omega)), wr_add1 (by omega)]
      simp only [Int.toNat_natCast]
      have e1 : (a.getD i 0 &&& 4294967295).toNat = (a.getD i 0).toNat % 4294967296 := mask32 _
      have e2 : (shr64 (a.getD i 0) (UInt64.toNat 32)).toNat = (a.getD i 0).toNat / 4294967296 := by rw [shr64_nat]; rfl
      have hx := (a.getD i 0).toNat_lt
      refine ih (i + 1) _ h (by omega) (by simp; omega) (fun x hx' => ?_) ?_
      · rcases List.mem_append.1 hx' with h1 | h1
        · exact hh x h1
        · simp only [List.mem_cons, List.not_mem_nil, or_false] at h1
          rcases h1 with rfl | rfl
          · rw [e1]; exact Nat.mod_lt _ (by decide)
          · rw [e2]; omega
      · rw [lh_append2, hl, pow_half, e1, e2, hinv, lv_take_succ]
        congr 2
        omega
    · obtain rfl : i = a.length := by omega
      rw [ltN_false h, cond_false]
      exact ⟨out, rfl, hl, hh, by rw [hinv, lv_take_all (Nat.le_refl _)]⟩

theorem q167_eq {N : Nat} {a : List UInt64} (ha : a.length < 1000000) (hN : a.length < N) : ∃ h, q167 N a = some (h, ()) ∧ h.length = 2 * a.length ∧ Half h ∧ lh h = lv a := by
  unfold q167
  exact m167_eq N a ha N 0 [] (Nat.zero_le _) (by omega) rfl (fun x hx => by cases hx) rfl

theorem lh_setL (l : List UInt64) (i : Nat) (v : UInt64) (h : i < l.length) : lh (setL l i v) + 4294967296 ^ i * (l.getD i 0).toNat = lh l + 4294967296 ^ i * v.toNat := by
  induction l generalizing i with
  | nil => simp at h
  | cons x l ih =>
    cases i with
    | zero => simp [setL, lh]; omega
    | succ i =>
      have := ih i (by simpa using h)
      simp only [setL, lh, List.getD_cons_succ, Nat.pow_succ]
      generalize 4294967296 ^ i = p at this ⊢
      rw [Nat.mul_comm p 4294967296, Nat.mul_assoc, Nat.mul_assoc]
      omega

theorem half_get {l : List UInt64} (h : Half l) (i : Nat) : (l.getD i 0).toNat < 4294967296 := by
  rw [List.getD_eq_getElem?_getD]
  cases hi : l[i]? with
  | none => simp
  | some x => exact h x (List.mem_of_getElem? hi)

theorem half_setL {l : List UInt64} (h : Half l) (i : Nat) {v : UInt64} (hv : v.toNat < 4294967296) : Half (setL l i v) := by
  induction l generalizing i with
  | nil => exact h
  | cons x l ih =>
    cases i with
    | zero =>
      intro y hy
      simp only [setL, List.mem_cons] at hy
      rcases hy with rfl | hy
      · exact hv
      · exact h y (by simp [hy])
    | succ i =>
      intro y hy
      simp only [setL, List.mem_cons] at hy
      rcases hy with rfl | hy
      · exact h y (by simp)
      · exact ih (fun z hz => h z (by simp [hz])) i y hy

theorem lh_take_succ (l : List UInt64) (i : Nat) : lh (l.take (i + 1)) = lh (l.take i) + 4294967296 ^ i * (l.getD i 0).toNat := by
  induction l generalizing i with
  | nil => simp [lh]
  | cons x l ih =>
    cases i with
    | zero => simp [lh]
    | succ i =>
      simp only [List.take_succ_cons, lh, ih i, List.getD_cons_succ, Nat.pow_succ]
      generalize 4294967296 ^ i = p
      rw [Nat.mul_add, Nat.add_assoc, Nat.mul_comm p 4294967296, Nat.mul_assoc]

theorem lh_lt {l : List UInt64} (h : Half l) : lh l < 4294967296 ^ l.length := by
  induction l with
  | nil => simp [lh]
  | cons x l ih =>
    have hx := h x (by simp)
    have := ih (fun z hz => h z (by simp [hz]))
    simp only [lh, List.length_cons, Nat.pow_succ]
    have h2 : 4294967296 * (lh l + 1) ≤ 4294967296 * 4294967296 ^ l.length := Nat.mul_le_mul_left _ this
    rw [Nat.mul_comm (4294967296 ^ l.length)]
    omega

theorem half_take {l : List UInt64} (h : Half l) (n : Nat) : Half (l.take n) := fun x hx => h x (List.mem_of_mem_take hx)

theorem m67_8_eq (N : Nat) (A : Int → List UInt64 → List UInt64 → List UInt64 → Option (List UInt64 × Unit)) (x y : List UInt64) (i V0 : Nat) (hx : Half x) (hy : Half y) (hi : i < x.length) (hbig : x.length + y.length < 100000)
    (htop : V0 + 4294967296 ^ i * ((x.getD i 0).toNat * lh y) < 4294967296 ^ (i + 1 + y.length)) : ∀ n k : Nat, ∀ c : UInt64, ∀ acc : List UInt64, y.length + 2 - k < n → k ≤ y.length + 1 → acc.length = x.length + y.length + 1 → Half acc → c.toNat < 4294967296 →
      lh acc + 4294967296 ^ (i + k) * c.toNat = V0 + 4294967296 ^ i * ((x.getD i 0).toNat * lh (y.take k)) →
      ∃ acc', acc'.length = x.length + y.length + 1 ∧ Half acc' ∧ lh acc' = V0 + 4294967296 ^ i * ((x.getD i 0).toNat * lh y) ∧ m67_8 N A n (i : Int) c (k : Int) x y acc = A ((i + 1 : Nat) : Int) x y acc' := by
  intro n
  induction n with
  | zero => intro k c acc h; omega
  | succ n ih =>
    intro k c acc hn hk hl hh hc hinv
    rw [m67_8_succ]
    unfold c67_8
    have e1 : wr ((i : Int) + (k : Int)) = ((i + k : Nat) : Int) := by rw [wr_id (by omega) (by omega)]; omega
    rw [ltI_nat, e1]
    have hxi := half_get hx i
    have hai := half_get hh (i + k)
    generalize hX : (x.getD i 0) = xi at *
    by_cases h : k < y.length
    · have hyk := half_get hy k
      have hprod := mul_parts (c := 0) (d := 0) hxi hyk
      rw [ltN_true h, cond_true, leI_zero, ltI_nat, ltN_true (show i + k < acc.length by omega), must_tt, cond_true, ltI_nat, ltN_true hi, leI_zero, must_tt, leI_zero, must_tt, must_tt, wr_add1 (by omega)]
      simp only [Int.toNat_natCast, hX]
      have ht : (acc.getD (i + k) 0 + c + xi * y.getD k 0).toNat = (acc.getD (i + k) 0).toNat + c.toNat + xi.toNat * (y.getD k 0).toNat := by
        simp only [UInt64.toNat_add, UInt64.toNat_mul]
        have e64 : (2 : Nat) ^ 64 = 18446744073709551616 := by decide
        rw [e64]
        omega
      generalize hT : acc.getD (i + k) 0 + c + xi * y.getD k 0 = t at ht ⊢
      have e2 : (t &&& 4294967295).toNat = t.toNat % 4294967296 := mask32 _
      have e3 : (shr64 t (UInt64.toNat 32)).toNat = t.toNat / 4294967296 := by rw [shr64_nat]; rfl
      have htl := t.toNat_lt
      refine ih (k + 1) _ _ (by omega) (by omega) (by rw [length_setL]; exact hl) (half_setL hh _ (by rw [e2]; exact Nat.mod_lt _ (by decide))) (by rw [e3]; omega) ?_
      have hs := lh_setL acc (i + k) (t &&& 4294967295) (by omega)
      rw [e2] at hs
      rw [e3, lh_take_succ, show i + (k + 1) = i + k + 1 by omega, Nat.pow_succ]
      rw [Nat.pow_add] at hinv hs ⊢
      generalize 4294967296 ^ i = p at hinv hs ⊢
      generalize 4294967296 ^ k = q at hinv hs ⊢
      have key : p * q * (t.toNat % 4294967296) + p * q * 4294967296 * (t.toNat / 4294967296) = p * q * t.toNat := by
        rw [Nat.mul_assoc (p * q), ← Nat.mul_add]
        congr 1
        omega
      rw [ht] at key
      rw [ht] at hs ⊢
      simp only [Nat.mul_add] at key
      have k3 : p * (xi.toNat * (lh (List.take k y) + q * (y.getD k 0).toNat)) = p * (xi.toNat * lh (List.take k y)) + p * q * (xi.toNat * (y.getD k 0).toNat) := by
        rw [Nat.mul_add, Nat.mul_add]
        congr 1
        rw [Nat.mul_left_comm xi.toNat q, Nat.mul_assoc]
      rw [k3]
      omega
    · rw [ltN_false h, cond_false]
      have htk : lh (y.take k) = lh y := by rw [List.take_of_length_le (by omega)]
      rw [htk] at hinv
      by_cases hc0 : 0 < c.toNat
      · have hkY : k = y.length := by
          have : 4294967296 ^ (i + k) * 1 ≤ 4294967296 ^ (i + k) * c.toNat := Nat.mul_le_mul_left _ hc0
          have h2 : 4294967296 ^ (i + k) < 4294967296 ^ (i + 1 + y.length) := by omega
          have := (Nat.pow_lt_pow_iff_right (by decide : 1 < 4294967296)).1 h2
          omega
        rw [show ltN (UInt64.toNat 0) c.toNat = true from ltN_true (by simpa using hc0), cond_true, leI_zero, ltI_nat, ltN_true (show i + k < acc.length by omega), must_tt, cond_false, must_tt, wr_add1 (by omega)]
        simp only [Int.toNat_natCast]
        have ht : (acc.getD (i + k) 0 + c).toNat = (acc.getD (i + k) 0).toNat + c.toNat := by
          simp only [UInt64.toNat_add]
          have e64 : (2 : Nat) ^ 64 = 18446744073709551616 := by decide
          rw [e64]
          omega
        generalize hT : acc.getD (i + k) 0 + c = t at ht ⊢
        have e2 : (t &&& 4294967295).toNat = t.toNat % 4294967296 := mask32 _
        have e3 : (shr64 t (UInt64.toNat 32)).toNat = t.toNat / 4294967296 := by rw [shr64_nat]; rfl
        have htl := t.toNat_lt
        refine ih (k + 1) _ _ (by omega) (by omega) (by rw [length_setL]; exact hl) (half_setL hh _ (by rw [e2]; exact Nat.mod_lt _ (by decide))) (by rw [e3]; omega) ?_
        have hs := lh_setL acc (i + k) (t &&& 4294967295) (by omega)
        rw [e2] at hs
        rw [e3, List.take_of_length_le (show y.length ≤ k + 1 by omega), show i + (k + 1) = i + k + 1 by omega, Nat.pow_succ]
        generalize 4294967296 ^ (i + k) = p at hinv hs ⊢
        have key : p * (t.toNat % 4294967296) + p * 4294967296 * (t.toNat / 4294967296) = p * t.toNat := by
          rw [Nat.mul_assoc p, ← Nat.mul_add]
          congr 1
          omega
        rw [ht] at key
        rw [ht] at hs ⊢
        simp only [Nat.mul_add] at key
        omega
      · have hcz : c.toNat = 0 := by omega
        rw [show ltN (UInt64.toNat 0) c.toNat = false from ltN_false (by simpa using hcz), cond_false, wr_add1 (by omega)]
        rw [hcz, Nat.mul_zero, Nat.add_zero] at hinv
        exact ⟨acc, hl, hh, hinv, rfl⟩

theorem m67_16_eq (N : Nat) (acc : List UInt64) (hh : Half acc) (hb : acc.length < 100000) (hN : acc.length < N) : ∀ n i : Nat, ∀ out : List UInt64, 2 * i ≤ acc.length + 1 → acc.length + 1 - 2 * i < n → out.length = i → lv out = lh (acc.take (2 * i)) →
    ∃ s, m67_16 N n ((2 * i : Nat) : Int) acc out = some (s, ()) ∧ Nrm s ∧ lv s = lh acc := by
  intro n
  induction n with
  | zero => intro i out _ h; omega
  | succ n ih =>
    intro i out hi hn hl hinv
    rw [m67_16_succ]
    unfold c67_16
    rw [ltI_nat]
    have e1 : wr (((2 * i : Nat) : Int) + 1) = ((2 * i + 1 : Nat) : Int) := by rw [wr_id (by omega) (by omega)]; omega
    have e2 : wr (((2 * i : Nat) : Int) + 2) = ((2 * (i + 1) : Nat) : Int) := by rw [wr_id (by omega) (by omega)]; omega
    rw [e1, e2]
    by_cases h : 2 * i < acc.length
    · rw [ltN_true h, cond_true, leI_zero, must_tt, ltI_nat]
      have h0 := half_get hh (2 * i)
      have h1 := half_get hh (2 * i + 1)
      by_cases h2 : 2 * i + 1 < acc.length
      · rw [ltN_true h2, cond_true, leI_zero, must_tt, must_t (leN_true (by simp; omega))]
        simp only [Int.toNat_natCast]
        refine ih (i + 1) _ (by omega) (by omega) (by simp; omega) ?_
        have e3 : (acc.getD (2 * i) 0 + shl64 (acc.getD (2 * i + 1) 0) (UInt64.toNat 32)).toNat = (acc.getD (2 * i) 0).toNat + 4294967296 * (acc.getD (2 * i + 1) 0).toNat := by
          rw [UInt64.toNat_add]
          unfold shl64
          rw [UInt64.toNat_ofNat']
          have e32 : (2 : Nat) ^ (UInt64.toNat 32) = 4294967296 := rfl
          have e64 : (2 : Nat) ^ 64 = 18446744073709551616 := by decide
          rw [e32, e64]
          omega
        rw [lv_append1, e3, hl, ← pow_half, hinv, show 2 * (i + 1) = 2 * i + 1 + 1 by omega, lh_take_succ, lh_take_succ, Nat.pow_succ, Nat.mul_add, Nat.mul_assoc]
        omega
      · rw [ltN_false h2, cond_false, must_t (leN_true (by simp; omega))]
        simp only [Int.toNat_natCast]
        refine ih (i + 1) _ (by omega) (by omega) (by simp; omega) ?_
        rw [lv_append1, hl, ← pow_half, hinv, show 2 * (i + 1) = 2 * i + 1 + 1 by omega, lh_take_succ, lh_take_succ, getD_zero (show acc.length ≤ 2 * i + 1 by omega)]
        simp
    · rw [ltN_false h, cond_false, q161_eq (by omega) (by omega)]
      refine ⟨cutL out, rfl, Nrm_cutL _, ?_⟩
      rw [lv_cutL, hinv, List.take_of_length_le (by omega)]

theorem m67_4_eq (N : Nat) (x y : List UInt64) (hx : Half x) (hy : Half y) (hbig : x.length + y.length < 90000) (hN : x.length + y.length + 5 < N) : ∀ n i : Nat, ∀ acc : List UInt64, i ≤ x.length → x.length - i < n → acc.length = x.length + y.length + 1 → Half acc → lh acc = lh (x.take i) * lh y →
    ∃ s, m67_4 N n (i : Int) x y acc = some (s, ()) ∧ Nrm s ∧ lv s = lh x * lh y := by
  intro n
  induction n with
  | zero => intro i acc _ h; omega
  | succ n ih =>
    intro i acc hi hn hl hh hinv
    rw [m67_4_succ]
    unfold c67_4
    rw [ltI_nat]
    by_cases h : i < x.length
    · rw [ltN_true h, cond_true]
      have e : lh acc + 4294967296 ^ i * ((x.getD i 0).toNat * lh y) = lh (x.take (i + 1)) * lh y := by
        rw [hinv, lh_take_succ, Nat.add_mul, Nat.mul_assoc]
      have htop : lh acc + 4294967296 ^ i * ((x.getD i 0).toNat * lh y) < 4294967296 ^ (i + 1 + y.length) := by
        rw [e, Nat.pow_add]
        refine Nat.mul_lt_mul'' ?_ (lh_lt hy)
        have := lh_lt (half_take hx (i + 1))
        rw [List.length_take] at this
        exact Nat.lt_of_lt_of_le this (Nat.pow_le_pow_right (by decide) (by omega))
      obtain ⟨acc', h1, h2, h3, h4⟩ := m67_8_eq N (m67_4 N n) x y i (lh acc) hx hy h (by omega) htop N 0 0 acc (by omega) (by omega) hl hh (by simp) (by simp [lh])
      have h4' : m67_8 N (m67_4 N n) N (i : Int) 0 0 x y acc = m67_4 N n ((i + 1 : Nat) : Int) x y acc' := h4
      rw [h4']
      exact ih (i + 1) acc' h (by omega) h1 h2 (by rw [h3, e])
    · obtain rfl : i = x.length := by omega
      rw [ltN_false h, cond_false]
      obtain ⟨s, h1, h2, h3⟩ := m67_16_eq N acc hh (by omega) (by omega) N 0 [] (by omega) (by omega) rfl (by simp [lv, lh])
      refine ⟨s, h1, h2, ?_⟩
      rw [h3, hinv, List.take_of_length_le (Nat.le_refl _)]

theorem q67_eq {N : Nat} {a b : List UInt64} (ha : a.length < 100) (hb : b.length < 100) (hN : 1000 < N) : ∃ s, q67 N a b = some (s, ()) ∧ Nrm s ∧ lv s = lv a * lv b := by
  unfold q67
  obtain ⟨x, hx1, hx2, hx3, hx4⟩ := q167_eq (N := N) (a := a) (by omega) (by omega)
  obtain ⟨y, hy1, hy2, hy3, hy4⟩ := q167_eq (N := N) (a := b) (by omega) (by omega)
  rw [hx1, hy1]
  simp only [Option.bind_some]
  have e1 : wr (wr ((x.length : Int) + (y.length : Int)) + 1) = ((x.length + y.length + 1 : Nat) : Int) := by
    rw [wr_id (x := (x.length : Int) + (y.length : Int)) (by omega) (by omega), wr_id (by omega) (by omega)]; omega
  rw [e1, leI_zero, eqI_true rfl, must_t (by simp only [Bool.true_and, Int.toNat_natCast]; exact leN_true (by omega))]
  simp only [Int.toNat_natCast]
  have hz : ∀ n, lh (List.replicate n 0) = 0 := fun n => by
    induction n with
    | zero => rfl
    | succ n ih => rw [List.replicate_succ]; simp [lh, ih]
  obtain ⟨s, h1, h2, h3⟩ := m67_4_eq N x y hx3 hy3 (by omega) (by omega) N 0 (List.replicate (x.length + y.length + 1) 0) (Nat.zero_le _) (by omega) (by simp) (fun z hz => by rw [List.eq_of_mem_replicate hz]; simp) (by rw [hz]; simp [lh])
  exact ⟨s, h1, h2, by rw [h3, hx4, hy4]⟩

theorem m10_eq (a b : List UInt64) (ha : a.length < 100) (hb : b.length < 100) : ∀ n i : Nat, ∀ s : List UInt64, s.length < 1000000 → i ≤ s.length → s.length - i < n → m10_11 2000 n a b true (i : Int) a b s = some (true, ()) := by
  intro n
  induction n with
  | zero => intro i s _ _ h; omega
  | succ n ih =>
    intro i s hs hi hn
    rw [m10_11_succ]
    unfold c10_11
    rw [ltI_nat]
    by_cases h : i < s.length
    · rw [ltN_true h, cond_true, leI_zero, must_tt, wr_add1 (by omega)]
      exact ih (i + 1) _ (by rw [length_setL]; exact hs) (by rw [length_setL]; exact h) (by rw [length_setL]; omega)
    · rw [ltN_false h, cond_false, cond_true, q54_eq (by omega) (by omega), q54_eq (by omega) (by omega)]
      simp

theorem all_plain (a b : List UInt64) : q10 2000 a b = some (true, ()) := by
  unfold q10
  rw [begun1]
  simp only [Option.bind_some, Bool.not_true, cond_false]
  by_cases ha : a.length ≤ 12
  case neg => rw [ltI_true (by omega), cond_true]
  by_cases hb : b.length ≤ 12
  case neg => rw [ltI_false (by omega), cond_false, ltI_true (by omega), cond_true]
  rw [ltI_false (by omega), cond_false, ltI_false (by omega), cond_false, must_t (leN_true (by omega)), must_t (leN_true (by omega))]
  obtain ⟨s, hs1, hs2, hs3⟩ := q62_eq (N := 2000) (a := a) (b := b) (by omega) (by omega) (by omega)
  obtain ⟨t, ht1, ht2, ht3⟩ := q66_eq (N := 2000) (a := a) (b := b) (by omega) (by omega) (by omega)
  obtain ⟨u, hu1, hu2, hu3⟩ := q55_eq (N := 2000) (a := a) (b := b) (by omega) (by omega) (by omega)
  obtain ⟨v, hv1, hv2, hv3⟩ := q67_eq (N := 2000) (a := a) (b := b) (by omega) (by omega) (by omega)
  have hsl := sum_len ha hb hs2 hs3
  have hul := mul_len ha hb hu2 hu3
  have e1 : s = t := eq_of_lv hs2 ht2 (by rw [hs3, ht3])
  have e2 : u = v := eq_of_lv hu2 hv2 (by rw [hu3, hv3])
  have hfin : m10_11 2000 2000 a b true 0 a b s = some (true, ()) := m10_eq a b (by omega) (by omega) 2000 0 s (by omega) (Nat.zero_le _) (by omega)
  rcases q63_eq (N := 2000) (a := a) (b := b) (by omega) (by omega) (by omega) with ⟨h1, h2⟩ | ⟨h1, d, h2, h3, h4⟩
  · rcases q64_eq (N := 2000) (a := a) (b := b) (by omega) (by omega) (by omega) with ⟨_, g2⟩ | ⟨g1, _⟩
    · rw [h2, g2, hs1, hu1, q61_eq (by omega) (by omega) (by omega), q65_eq (by omega) (by omega) (by omega), ht1, hv1]
      simp only [Option.bind_some]
      rw [eqI_true rfl, cond_true, q54_eq (by omega) (by omega), q54_eq (by simp) (by simp), q54_eq (by omega) (by omega), e1, e2]
      simp only [Option.bind_some, decide_true, cond_true]
      rw [show eqI 1 1 = true from rfl, cond_true, ← e1]
      exact hfin
    · omega
  · rcases q64_eq (N := 2000) (a := a) (b := b) (by omega) (by omega) (by omega) with ⟨g1, _⟩ | ⟨_, f, g2, g3, g4⟩
    · omega
    · have e3 : d = f := eq_of_lv h3 g3 (by rw [h4, g4])
      have hdl : d.length ≤ 12 := Nrm_len h3 (by have := lv_len ha; omega)
      rw [h2, g2, hs1, hu1, q61_eq (by omega) (by omega) (by omega), q65_eq (by omega) (by omega) (by omega), ht1, hv1]
      simp only [Option.bind_some]
      rw [eqI_true rfl, cond_true, q54_eq (by omega) (by omega), q54_eq (by omega) (by omega), q54_eq (by omega) (by omega), e1, e2, e3]
      simp only [Option.bind_some, decide_true, cond_true]
      rw [show eqI 0 0 = true from rfl, cond_true, ← e1]
      exact hfin

end Go.Proofs.Ytgimohchocjgcaa.V
