import Derived.Test.YtgimohchocjgcaaVWB7
import Derived.KernelRfl
set_option linter.unusedVariables false
set_option linter.unusedSimpArgs false
namespace Go.Proofs.Ytgimohchocjgcaa.V
theorem cond_or {α : Type} (a b : Bool) (x y : α) : cond a x (cond b x y) = cond (a || b) x y := by cases a <;> rfl
theorem mn_lt (x y z : Int) : ltI (mnI x y) z = (ltI x z || ltI y z) := by
  have e : ∀ a b : Int, ltI a b = decide (a < b) := fun _ _ => rfl
  unfold mnI
  by_cases h : y < x
  · rw [ltI_true h, cond_true]
    by_cases h2 : y < z
    · rw [ltI_true h2, Bool.or_true]
    · rw [ltI_false h2, ltI_false (show ¬ x < z by omega)]; rfl
  · rw [ltI_false h, cond_false]
    by_cases h2 : x < z
    · rw [ltI_true h2, Bool.true_or]
    · rw [ltI_false h2, ltI_false (show ¬ y < z by omega)]; rfl
theorem mx_le (x y z : Int) : leI z (mxI x y) = (leI z x || leI z y) := by
  by_cases h : x < y
  · rw [show mxI x y = y by unfold mxI; first | rw [ltI_true h, cond_true] | (simp [ltI, leI]; omega)]
    by_cases h2 : z ≤ y
    · rw [leI_true h2, Bool.or_true]
    · rw [leI_false h2, leI_false (show ¬ z ≤ x by omega)]; rfl
  · rw [show mxI x y = x by unfold mxI; first | rw [ltI_false h, cond_false] | (simp [ltI, leI]; omega)]
    by_cases h2 : z ≤ x
    · rw [leI_true h2, Bool.true_or]
    · rw [leI_false h2, leI_false (show ¬ z ≤ y by omega)]; rfl
theorem le_lt (x y : Int) : leI x y = !ltI y x := by
  by_cases h : y < x
  · rw [ltI_true h, leI_false (by omega)]; rfl
  · rw [ltI_false h, leI_true (by omega)]; rfl
theorem getRow {l : List Row} {r : Row} {m : List Row} {i : Nat} (hd : m.drop i = r :: l) (hi : i < m.length) : m.getD i zrow = r ∧ m.drop (i + 1) = l := by
  rw [List.drop_eq_getElem_cons hi] at hd
  refine ⟨?_, (List.cons.inj hd).2⟩
  rw [List.getD_eq_getElem?_getD, List.getElem?_eq_getElem hi]
  exact (List.cons.inj hd).1
theorem getPr {l : List Pr} {r : Pr} {m : List Pr} {i : Nat} (hd : m.drop i = r :: l) (hi : i < m.length) : m.getD i ⟨0, 0⟩ = r ∧ m.drop (i + 1) = l := by
  rw [List.drop_eq_getElem_cons hi] at hd
  refine ⟨?_, (List.cons.inj hd).2⟩
  rw [List.getD_eq_getElem?_getD, List.getElem?_eq_getElem hi]
  exact (List.cons.inj hd).1
section prog
variable {N : Nat} (hN : 2000 ≤ N) (c0 v1 : Int) (v2 : List Row) (v3 : List Pr)
include hN
theorem step_200_5 (A : (List Row) → Int → Int → Option (Bool × Unit)) (n : Nat) (t8 : List Row) (t9 t10 : Int) (q : List Fr) (hq : q.length = 8) (k : Nat) (hk : k < 8) :
    m200_5 N A (n + 1) t8 t9 t10 q (k : Int) = cond (bg (q.getD k Fr.zero)) (some (false, ())) (m200_5 N A n t8 t9 t10 q ((k + 1 : Nat) : Int)) := by
  rw [m200_5_succ]
  unfold c200_5
  rw [ltI_true (by omega : (k : Int) < 8), cond_true, leI_zero, ltI_true (by omega : (k : Int) < ((8 : Nat) : Int)), hq, ltI_true (by omega : (k : Int) < ((8 : Nat) : Int)), wr_add1 (by omega), Int.toNat_natCast, q79_eq (show 10 < N by omega)]
  simp only [bsm, Bool.and_self, mst2]
  rfl
theorem run_200_5 (A : (List Row) → Int → Int → Option (Bool × Unit)) (t8 : List Row) (t9 t10 : Int) (r : Row) :
    m200_5 N A N t8 t9 t10 [r.q0, r.q1, r.q2, r.q3, r.q4, r.q5, r.q6, r.q7] 0 = cond (bigR r) (some (false, ())) (A t8 t9 (wr (t10 + 1))) := by
  obtain ⟨n, hn⟩ : ∃ n, N = n + 1 + 1 + 1 + 1 + 1 + 1 + 1 + 1 + 1 := ⟨N - 9, by omega⟩
  have e : ∀ M, M = n + 1 + 1 + 1 + 1 + 1 + 1 + 1 + 1 + 1 → m200_5 N A M t8 t9 t10 [r.q0, r.q1, r.q2, r.q3, r.q4, r.q5, r.q6, r.q7] ((0 : Nat) : Int) = cond (bigR r) (some (false, ())) (A t8 t9 (wr (t10 + 1))) := by
    rintro M rfl
    have hl : [r.q0, r.q1, r.q2, r.q3, r.q4, r.q5, r.q6, r.q7].length = 8 := rfl
    rw [step_200_5 hN A _ _ _ _ _ hl 0 (by omega), step_200_5 hN A _ _ _ _ _ hl 1 (by omega), step_200_5 hN A _ _ _ _ _ hl 2 (by omega), step_200_5 hN A _ _ _ _ _ hl 3 (by omega), step_200_5 hN A _ _ _ _ _ hl 4 (by omega), step_200_5 hN A _ _ _ _ _ hl 5 (by omega), step_200_5 hN A _ _ _ _ _ hl 6 (by omega), step_200_5 hN A _ _ _ _ _ hl 7 (by omega), m200_5_succ]
    unfold c200_5
    rw [ltI_false (by omega), cond_false]
    simp only [cond_or]
    unfold bigR
    simp only [Bool.or_assoc]
    rfl
  exact e N hn
theorem run_200_2 : ∀ (l : List Row) (i n : Nat), v2.drop i = l → i + l.length = v2.length → l.length < n → v2.length < 1000000 →
    m200_2 N n v2 (v2.length : Int) (i : Int) = some (!l.any bigR, ())
  | [], i, n + 1, hd, hl, hn, hb => by
    simp only [List.length_nil] at hl
    rw [m200_2_succ]
    unfold c200_2
    rw [ltI_false (by omega), cond_false]
    rfl
  | r :: l, i, n + 1, hd, hl, hn, hb => by
    simp only [List.length_cons] at hl hn
    obtain ⟨hr, hd'⟩ := getRow hd (by omega)
    rw [m200_2_succ]
    unfold c200_2
    rw [ltI_true (by omega : (i : Int) < (v2.length : Int)), cond_true, leI_zero, must_tt, Int.toNat_natCast, hr, run_200_5 hN, wr_add1 (by omega), run_200_2 l (i + 1) n hd' (by omega) (by omega) hb, List.any_cons]
    cases bigR r <;> rfl
theorem q200_eq (hb : v2.length < 1000) : q200 N c0 v1 v2 v3 = some (!v2.any bigR, ()) :=
  run_200_2 hN v2 v2 0 N rfl (by omega) (by omega) (by omega)
theorem step_201_5 (A : (List Row) → Int → Int → Int → Int → (List Row) → (List Pr) → Option (Bool × Unit)) (n : Nat) (t8 : List Row) (t9 t10 : Int) (q : List Int) (hq : q.length = 3) (k : Nat) (hk : k < 3) :
    m201_5 N A (n + 1) t8 t9 t10 q (k : Int) c0 v1 v2 v3 = cond (leI v1 (q.getD k 0)) (some (false, ())) (m201_5 N A n t8 t9 t10 q ((k + 1 : Nat) : Int) c0 v1 v2 v3) := by
  have _ := hN
  rw [m201_5_succ]
  unfold c201_5
  rw [ltI_true (by omega : (k : Int) < 3), cond_true, leI_zero, ltI_true (by omega : (k : Int) < ((3 : Nat) : Int)), hq, ltI_true (by omega : (k : Int) < ((3 : Nat) : Int)), wr_add1 (by omega), Int.toNat_natCast]
  simp only [Bool.and_self, mst2]
theorem run_201_5 (A : (List Row) → Int → Int → Int → Int → (List Row) → (List Pr) → Option (Bool × Unit)) (t8 : List Row) (t9 t10 : Int) (r : Row) :
    m201_5 N A N t8 t9 t10 [r.w0, r.w1, r.w2] 0 c0 v1 v2 v3 = cond (unkR v1 r) (some (false, ())) (A t8 t9 (wr (t10 + 1)) c0 v1 v2 v3) := by
  obtain ⟨n, hn⟩ : ∃ n, N = n + 1 + 1 + 1 + 1 := ⟨N - 4, by omega⟩
  have e : ∀ M, M = n + 1 + 1 + 1 + 1 → m201_5 N A M t8 t9 t10 [r.w0, r.w1, r.w2] ((0 : Nat) : Int) c0 v1 v2 v3 = cond (unkR v1 r) (some (false, ())) (A t8 t9 (wr (t10 + 1)) c0 v1 v2 v3) := by
    rintro M rfl
    have hl : [r.w0, r.w1, r.w2].length = 3 := rfl
    rw [step_201_5 hN c0 v1 v2 v3 A _ _ _ _ _ hl 0 (by omega), step_201_5 hN c0 v1 v2 v3 A _ _ _ _ _ hl 1 (by omega), step_201_5 hN c0 v1 v2 v3 A _ _ _ _ _ hl 2 (by omega), m201_5_succ]
    unfold c201_5
    rw [ltI_false (by omega), cond_false]
    simp only [cond_or]
    unfold unkR
    simp only [Bool.or_assoc]
    rfl
  exact e N hn
theorem run_201_12 : ∀ (l : List Pr) (i n : Nat), v3.drop i = l → i + l.length = v3.length → l.length < n → v3.length < 1000000 →
    m201_12 N n v3 (v3.length : Int) (i : Int) c0 v1 v2 v3 = some (!l.any (unkP v1), ())
  | [], i, n + 1, hd, hl, hn, hb => by
    have _ := hN
    simp only [List.length_nil] at hl
    rw [m201_12_succ]
    unfold c201_12
    rw [ltI_false (by omega), cond_false]
    rfl
  | r :: l, i, n + 1, hd, hl, hn, hb => by
    simp only [List.length_cons] at hl hn
    obtain ⟨hr, hd'⟩ := getPr hd (by omega)
    rw [m201_12_succ]
    unfold c201_12
    rw [ltI_true (by omega : (i : Int) < (v3.length : Int)), cond_true, leI_zero, must_tt, Int.toNat_natCast, hr, wr_add1 (by omega), run_201_12 l (i + 1) n hd' (by omega) (by omega) hb, List.any_cons, mn_lt, mx_le]
    unfold unkP
    cases ltI r.x 0 <;> cases ltI r.y 0 <;> cases leI v1 r.x <;> cases leI v1 r.y <;> rfl
theorem run_201_2 : ∀ (l : List Row) (i n : Nat), v2.drop i = l → i + l.length = v2.length → l.length < n → v2.length < 1000000 →
    m201_2 N n v2 (v2.length : Int) (i : Int) c0 v1 v2 v3 = cond (l.any (unkR v1)) (some (false, ())) (m201_12 N N v3 (v3.length : Int) 0 c0 v1 v2 v3)
  | [], i, n + 1, hd, hl, hn, hb => by
    simp only [List.length_nil] at hl
    rw [m201_2_succ]
    unfold c201_2
    rw [ltI_false (by omega), cond_false]
    rfl
  | r :: l, i, n + 1, hd, hl, hn, hb => by
    simp only [List.length_cons] at hl hn
    obtain ⟨hr, hd'⟩ := getRow hd (by omega)
    rw [m201_2_succ]
    unfold c201_2
    rw [ltI_true (by omega : (i : Int) < (v2.length : Int)), cond_true, leI_zero, must_tt, Int.toNat_natCast, hr, run_201_5 hN, wr_add1 (by omega), run_201_2 l (i + 1) n hd' (by omega) (by omega) hb, List.any_cons, cond_or]
theorem q201_eq (hb : v2.length < 1000) (hb3 : v3.length < 1000) : q201 N c0 v1 v2 v3 = some (!(v2.any (unkR v1) || v3.any (unkP v1)), ()) := by
  refine (run_201_2 hN c0 v1 v2 v3 v2 0 N rfl (by omega) (by omega) (by omega)).trans ?_
  have e := run_201_12 hN c0 v1 v2 v3 v3 0 N rfl (by omega) (by omega) (by omega)
  cases v2.any (unkR v1)
  · exact e
  · rfl
theorem q220_eq (r : Row) : q220 N r = some (!badPub r, ()) := by
  have _ := hN
  unfold q220 badPub
  rw [r108_pub]
  simp only [bsm]
  rw [show List.length [pubRow r.w0] = 1 from rfl, ltI_true (show (0 : Int) < ((1 : Nat) : Int) by omega), show [pubRow r.w0].getD 0 zrow = pubRow r.w0 from rfl, mst2, le_lt]
  cases ltI r.w0 0 <;> simp
theorem run_202_2 : ∀ (l : List Row) (i n : Nat), v2.drop i = l → i + l.length = v2.length → l.length < n → v2.length < 1000000 →
    m202_2 N n v2 (v2.length : Int) (i : Int) c0 v1 v2 v3 = some (!formF c0 i l, ())
  | [], i, n + 1, hd, hl, hn, hb => by
    simp only [List.length_nil] at hl
    rw [m202_2_succ]
    unfold c202_2
    rw [ltI_false (by omega), cond_false]
    rfl
  | r :: l, i, n + 1, hd, hl, hn, hb => by
    simp only [List.length_cons] at hl hn
    obtain ⟨hr, hd'⟩ := getRow hd (by omega)
    rw [m202_2_succ]
    unfold c202_2
    rw [ltI_true (by omega : (i : Int) < (v2.length : Int)), cond_true, leI_zero, must_tt, Int.toNat_natCast, hr, row_eta', q220_eq hN, wr_add1 (by omega), run_202_2 l (i + 1) n hd' (by omega) (by omega) hb, mn_lt, mn_lt]
    simp only [bsm, Bool.not_not]
    rw [show formF c0 i (r :: l) = ((lowR r || (ltI (i : Int) c0 && badPub r)) || formF c0 (i + 1) l) from rfl]
    unfold lowR
    cases ltI (i : Int) c0 <;> cases badPub r <;> cases ltI r.w0 (-1) <;> cases ltI r.w1 (-1) <;> cases ltI r.w2 (-1) <;> rfl
theorem q202_eq (hb : v2.length < 1000) : q202 N c0 v1 v2 v3 = some (!formF c0 0 v2, ()) :=
  run_202_2 hN c0 v1 v2 v3 v2 0 N rfl (by omega) (by omega) (by omega)
theorem q119_eq (hb : v2.length < 1000) (hb3 : v3.length < 1000) : q119 N c0 v1 v2 v3 = some (mayF c0 v1 v2 v3, ()) := by
  unfold q119 mayF
  rw [q200_eq hN c0 v1 v2 v3 hb, q201_eq hN c0 v1 v2 v3 hb hb3, q202_eq hN c0 v1 v2 v3 hb]
  simp only [bsm, Bool.not_not]
  generalize ltI 8 c0 = a1
  generalize ltI 200 v1 = a2
  generalize ltI 64 (v2.length : Int) = a3
  generalize ltI 200 (v3.length : Int) = a4
  generalize ltI c0 0 = a5
  generalize ltI v1 0 = a6
  generalize ltI (v2.length : Int) c0 = a7
  generalize v2.any bigR = b1
  generalize (v2.any (unkR v1) || v3.any (unkP v1)) = b2
  generalize formF c0 0 v2 = b3
  cases a1 <;> cases a2 <;> cases a3 <;> cases a4 <;> simp only [cond_true, cond_false, Bool.true_or, Bool.or_true, Bool.false_or, Bool.or_false]
  cases a5 <;> cases a6 <;> cases a7 <;> simp only [cond_true, cond_false, Bool.true_or, Bool.or_true, Bool.false_or, Bool.or_false]
  cases b1 <;> cases b2 <;> cases b3 <;> rfl
end prog
structure GoodCirc (c0 v1 : Int) (v2 : List Row) (v3 : List Pr) : Prop where
  p0 : 0 ≤ c0
  p8 : c0 ≤ 8
  v0 : 0 ≤ v1
  v200 : v1 ≤ 200
  rows : v2.length ≤ 64
  same : v3.length ≤ 200
  pub : c0 ≤ (v2.length : Int)
  big : v2.any bigR = false
  unk : v2.any (unkR v1) = false
  unkp : v3.any (unkP v1) = false
  form : formF c0 0 v2 = false
theorem mayF_zero {c0 v1 : Int} {v2 : List Row} {v3 : List Pr} (h : mayF c0 v1 v2 v3 = 0) : GoodCirc c0 v1 v2 v3 := by
  unfold mayF at h
  cases h1 : ltI 8 c0
  case true => rw [h1] at h; simp at h
  cases h2 : ltI 200 v1
  case true => rw [h2] at h; simp at h
  cases h3 : ltI 64 (v2.length : Int)
  case true => rw [h3] at h; simp at h
  cases h4 : ltI 200 (v3.length : Int)
  case true => rw [h4] at h; simp at h
  rw [h1, h2, h3, h4] at h
  simp only [Bool.or_self, cond_false] at h
  cases h5 : ltI c0 0
  case true => rw [h5] at h; simp at h
  cases h6 : ltI v1 0
  case true => rw [h6] at h; simp at h
  cases h7 : ltI (v2.length : Int) c0
  case true => rw [h7] at h; simp at h
  rw [h5, h6, h7] at h
  simp only [Bool.or_self, cond_false] at h
  cases h8 : v2.any bigR
  case true => rw [h8] at h; simp at h
  cases h9 : v2.any (unkR v1)
  case true => rw [h8, h9] at h; simp at h
  cases h10 : v3.any (unkP v1)
  case true => rw [h8, h9, h10] at h; simp at h
  cases h11 : formF c0 0 v2
  case true => rw [h8, h9, h10, h11] at h; simp at h
  have f : ∀ {a b : Int}, ltI a b = false → ¬ a < b := fun h => of_decide_eq_false h
  have := f h1
  have := f h2
  have := f h3
  have := f h4
  have := f h5
  have := f h6
  have := f h7
  exact ⟨by omega, by omega, by omega, by omega, by omega, by omega, by omega, h8, h9, h10, h11⟩
theorem GoodCirc.may {c0 v1 : Int} {v2 : List Row} {v3 : List Pr} (h : GoodCirc c0 v1 v2 v3) : mayF c0 v1 v2 v3 = 0 := by
  have := h.p0
  have := h.p8
  have := h.v0
  have := h.v200
  have := h.rows
  have := h.same
  have := h.pub
  unfold mayF
  rw [ltI_false (by omega : ¬ 8 < c0), ltI_false (by omega : ¬ 200 < v1), ltI_false (by omega : ¬ 64 < (v2.length : Int)), ltI_false (by omega : ¬ 200 < (v3.length : Int)), ltI_false (by omega : ¬ c0 < 0), ltI_false (by omega : ¬ v1 < 0), ltI_false (by omega : ¬ (v2.length : Int) < c0), h.big, h.unk, h.unkp, h.form]
  rfl
theorem GoodCirc.pairs {c0 v1 : Int} {v2 : List Row} {v3 : List Pr} (h : GoodCirc c0 v1 v2 v3) {V : Nat} (hV : v1 = (V : Int)) : PairsIn v3 V := by
  intro p hp
  have h2 := List.any_eq_false.mp h.unkp p hp
  unfold unkP at h2
  simp only [Bool.or_eq_true, not_or, Bool.not_eq_true] at h2
  obtain ⟨⟨a, b⟩, c, d⟩ := h2
  have := of_decide_eq_false a
  have := of_decide_eq_false b
  have := of_decide_eq_false c
  have := of_decide_eq_false d
  subst hV
  omega
theorem formF_low {P : Int} : ∀ {l : List Row} {i : Nat}, formF P i l = false → ∀ r ∈ l, lowR r = false
  | [], _, _, r, hr => absurd hr (by simp)
  | x :: l, i, h, r, hr => by
    unfold formF at h
    simp only [Bool.or_eq_false_iff] at h
    rcases List.mem_cons.mp hr with rfl | hr
    · exact h.1.1
    · exact formF_low h.2 r hr
theorem GoodCirc.vars {c0 v1 : Int} {v2 : List Row} {v3 : List Pr} (h : GoodCirc c0 v1 v2 v3) {r : Row} (hr : r ∈ v2) (j : Nat) : -1 ≤ rw3 r j ∧ rw3 r j < v1 := by
  have h1 := List.any_eq_false.mp h.unk r hr
  have h2 := formF_low h.form r hr
  unfold unkR at h1
  unfold lowR at h2
  simp only [Bool.or_eq_true, not_or, Bool.not_eq_true] at h1
  simp only [Bool.or_eq_false_iff] at h2
  obtain ⟨⟨a, b⟩, c⟩ := h1
  obtain ⟨⟨a', b'⟩, c'⟩ := h2
  have := of_decide_eq_false a
  have := of_decide_eq_false b
  have := of_decide_eq_false c
  have := of_decide_eq_false a'
  have := of_decide_eq_false b'
  have := of_decide_eq_false c'
  match j with
  | 0 => exact ⟨by simp only [rw3]; omega, by simp only [rw3]; omega⟩
  | 1 => exact ⟨by simp only [rw3]; omega, by simp only [rw3]; omega⟩
  | _ + 2 => exact ⟨by simp only [rw3]; omega, by simp only [rw3]; omega⟩
end Go.Proofs.Ytgimohchocjgcaa.V
