import Derived.Test.YtgimohchocjgcaaVWB6
import Derived.Test.YtgimohchocjgcaaVGA2
import Derived.KernelRfl
set_option linter.unusedVariables false
set_option linter.unusedSimpArgs false
namespace Go.Proofs.Ytgimohchocjgcaa.V
def pubRow (w : Int) : Row := Row.mk Fr.zero ⟨1, 0, 0, 0⟩ Fr.zero Fr.zero Fr.zero Fr.zero Fr.zero Fr.zero w (-1) (-1)
theorem r108_pub (N : Nat) (w : Int) : q108 N (Stp.mk 7 w 0 0 Fr.zero Fr.zero Fr.zero Fr.zero Fr.zero) = some ([pubRow w], 0, ()) := by kernel_rfl
theorem r197_pub (N : Nat) (w : Int) : q197 N (Stp.mk 7 w 0 0 Fr.zero Fr.zero Fr.zero Fr.zero Fr.zero) = some ([pubRow w], 0, ()) := by kernel_rfl
def rq (r : Row) : Nat → Fr
  | 0 => r.q0 | 1 => r.q1 | 2 => r.q2 | 3 => r.q3 | 4 => r.q4 | 5 => r.q5 | 6 => r.q6 | _ => r.q7
def rw3 (r : Row) : Nat → Int
  | 0 => r.w0 | 1 => r.w1 | _ => r.w2
def bg (x : Fr) : Bool := !decide (fv x < RR)
def bigR (r : Row) : Bool := bg r.q0 || bg r.q1 || bg r.q2 || bg r.q3 || bg r.q4 || bg r.q5 || bg r.q6 || bg r.q7
def unkR (V : Int) (r : Row) : Bool := leI V r.w0 || leI V r.w1 || leI V r.w2
def unkP (V : Int) (p : Pr) : Bool := ltI p.x 0 || leI V p.x || (ltI p.y 0 || leI V p.y)
def lowR (r : Row) : Bool := ltI r.w0 (-1) || ltI r.w1 (-1) || ltI r.w2 (-1)
def badPub (r : Row) : Bool := ltI r.w0 0 || !eqRow r (pubRow r.w0)
def formF (P : Int) : Nat → List Row → Bool
  | _, [] => false
  | i, r :: l => (lowR r || (ltI (i : Int) P && badPub r)) || formF P (i + 1) l
def mayF (c0 v1 : Int) (v2 : List Row) (v3 : List Pr) : Int :=
  cond (ltI 8 c0 || ltI 200 v1 || ltI 64 (v2.length : Int) || ltI 200 (v3.length : Int)) 8
    (cond (ltI c0 0 || ltI v1 0 || ltI (v2.length : Int) c0) 1
      (cond (v2.any bigR) 4 (cond (v2.any (unkR v1) || v3.any (unkP v1)) 10 (cond (formF c0 0 v2) 3 0))))
section ref
variable {N : Nat} (hN : 2000 ≤ N) (c0 v1 : Int) (v2 : List Row) (v3 : List Pr)
include hN
theorem step_11 (A : Bool → Bool → Bool → Int → Int → Int → (List Row) → (List Pr) → Option (Int × Unit)) (n : Nat) (b u f : Bool) (i : Int) (r : Row) (k : Nat) (hk : k < 8) :
    m130_11 N A (n + 1) b u f i (k : Int) c0 v1 v2 v3 r = m130_11 N A n (b || bg (rq r k)) u f i ((k + 1 : Nat) : Int) c0 v1 v2 v3 r := by
  rw [m130_11_succ]
  unfold c130_11
  rw [ltI_true (by omega : (k : Int) < 8), cond_true]
  cases b with
  | true => rw [cond_true, wr_add1 (by omega), Bool.true_or]
  | false =>
    rw [cond_false, Bool.false_or]
    simp only [q69_eq (show 10 < N by omega), bsm]
    match k, hk with
    | 0, _ => rfl
    | 1, _ => rfl
    | 2, _ => rfl
    | 3, _ => rfl
    | 4, _ => rfl
    | 5, _ => rfl
    | 6, _ => rfl
    | 7, _ => rfl
theorem run_11 (A : Bool → Bool → Bool → Int → Int → Int → (List Row) → (List Pr) → Option (Int × Unit)) (b u f : Bool) (i : Int) (r : Row) :
    m130_11 N A N b u f i 0 c0 v1 v2 v3 r = m130_15 N A N (b || bigR r) u f i 0 c0 v1 v2 v3 r := by
  obtain ⟨n, hn⟩ : ∃ n, N = n + 1 + 1 + 1 + 1 + 1 + 1 + 1 + 1 + 1 := ⟨N - 9, by omega⟩
  have e : ∀ M, M = n + 1 + 1 + 1 + 1 + 1 + 1 + 1 + 1 + 1 → m130_11 N A M b u f i ((0 : Nat) : Int) c0 v1 v2 v3 r = m130_15 N A N (b || bigR r) u f i 0 c0 v1 v2 v3 r := by
    rintro M rfl
    rw [step_11 hN c0 v1 v2 v3 A _ _ _ _ _ _ 0 (by omega), step_11 hN c0 v1 v2 v3 A _ _ _ _ _ _ 1 (by omega), step_11 hN c0 v1 v2 v3 A _ _ _ _ _ _ 2 (by omega), step_11 hN c0 v1 v2 v3 A _ _ _ _ _ _ 3 (by omega), step_11 hN c0 v1 v2 v3 A _ _ _ _ _ _ 4 (by omega), step_11 hN c0 v1 v2 v3 A _ _ _ _ _ _ 5 (by omega), step_11 hN c0 v1 v2 v3 A _ _ _ _ _ _ 6 (by omega), step_11 hN c0 v1 v2 v3 A _ _ _ _ _ _ 7 (by omega)]
    rw [m130_11_succ]
    unfold c130_11
    rw [ltI_false (by omega), cond_false]
    unfold bigR
    simp only [Bool.or_assoc, rq]
  exact e N hn
theorem step_15 (A : Bool → Bool → Bool → Int → Int → Int → (List Row) → (List Pr) → Option (Int × Unit)) (n : Nat) (b u f : Bool) (i : Int) (r : Row) (k : Nat) (hk : k < 3) :
    m130_15 N A (n + 1) b u f i (k : Int) c0 v1 v2 v3 r = m130_15 N A n b (u || leI v1 (rw3 r k)) (f || ltI (rw3 r k) (-1)) i ((k + 1 : Nat) : Int) c0 v1 v2 v3 r := by
  have _ := hN
  rw [m130_15_succ]
  unfold c130_15
  rw [ltI_true (by omega : (k : Int) < 3), cond_true]
  cases u <;> cases f <;> simp only [cond_true, cond_false, Bool.true_or, Bool.false_or]
  all_goals first | rw [wr_add1 (by omega)] | skip
  all_goals
    match k, hk with
    | 0, _ => rfl
    | 1, _ => rfl
    | 2, _ => rfl
theorem run_15 (A : Bool → Bool → Bool → Int → Int → Int → (List Row) → (List Pr) → Option (Int × Unit)) (b u f : Bool) (i : Nat) (hi : i < 1000000) (r : Row) :
    m130_15 N A N b u f (i : Int) 0 c0 v1 v2 v3 r = A b (u || unkR v1 r) (f || (lowR r || (ltI (i : Int) c0 && badPub r))) ((i + 1 : Nat) : Int) c0 v1 v2 v3 := by
  obtain ⟨n, hn⟩ : ∃ n, N = n + 1 + 1 + 1 + 1 := ⟨N - 4, by omega⟩
  have e : ∀ M, M = n + 1 + 1 + 1 + 1 → m130_15 N A M b u f (i : Int) ((0 : Nat) : Int) c0 v1 v2 v3 r = A b (u || unkR v1 r) (f || (lowR r || (ltI (i : Int) c0 && badPub r))) ((i + 1 : Nat) : Int) c0 v1 v2 v3 := by
    rintro M rfl
    rw [step_15 hN c0 v1 v2 v3 A _ _ _ _ _ _ 0 (by omega), step_15 hN c0 v1 v2 v3 A _ _ _ _ _ _ 1 (by omega), step_15 hN c0 v1 v2 v3 A _ _ _ _ _ _ 2 (by omega)]
    rw [m130_15_succ]
    unfold c130_15
    rw [ltI_false (by omega), cond_false, r197_pub]
    simp only [bsm]
    rw [wr_add1 (by omega), show List.length [pubRow r.w0] = 1 from rfl, ltI_true (show (0 : Int) < ((1 : Nat) : Int) by omega), show [pubRow r.w0].getD 0 zrow = pubRow r.w0 from rfl, mst2]
    unfold unkR lowR badPub
    simp only [rw3, Bool.or_assoc]
    cases f <;> cases ltI r.w0 (-1) <;> cases ltI r.w1 (-1) <;> cases ltI r.w2 (-1) <;> cases ltI (i : Int) c0 <;> cases ltI r.w0 0 <;> rfl
  exact e N hn
theorem run_7 : ∀ (l : List Row) (i n : Nat) (b u f : Bool), v2.drop i = l → i + l.length = v2.length → l.length < n → v2.length < 1000000 →
    m130_7 N n b u f (i : Int) c0 v1 v2 v3 = m130_22 N N (b || l.any bigR) (u || l.any (unkR v1)) (f || formF c0 i l) 0 c0 v1 v2 v3
  | [], i, n + 1, b, u, f, hd, hl, hn, hb => by
    simp only [List.length_nil] at hl
    rw [m130_7_succ]
    unfold c130_7
    rw [ltI_false (by omega), cond_false]
    simp [formF]
  | r :: l, i, n + 1, b, u, f, hd, hl, hn, hb => by
    have hi : i < v2.length := by simp only [List.length_cons] at hl; omega
    have hr : v2.getD i zrow = r := by
      rw [List.drop_eq_getElem_cons hi] at hd
      rw [List.getD_eq_getElem?_getD, List.getElem?_eq_getElem hi]
      exact (List.cons.inj hd).1
    have hd' : v2.drop (i + 1) = l := by
      rw [List.drop_eq_getElem_cons hi] at hd
      exact (List.cons.inj hd).2
    rw [m130_7_succ]
    unfold c130_7
    rw [ltI_true (by omega : (i : Int) < (v2.length : Int)), cond_true, leI_zero, must_tt, Int.toNat_natCast, hr, run_11 hN, run_15 hN c0 v1 v2 v3 _ _ _ _ i (by omega) r]
    rw [run_7 l (i + 1) n _ _ _ hd' (by simp only [List.length_cons] at hl; omega) (by simp only [List.length_cons] at hn; omega) hb]
    simp only [List.any_cons, formF, Bool.or_assoc]
theorem run_25 (A : Bool → Bool → Bool → Int → Int → Int → (List Row) → (List Pr) → Option (Int × Unit)) (b u f : Bool) (i : Nat) (hi : i < v3.length) (hb : v3.length < 1000000) :
    m130_25 N A N b u f (i : Int) 0 c0 v1 v2 v3 = A b (u || unkP v1 (v3.getD i ⟨0, 0⟩)) f ((i + 1 : Nat) : Int) c0 v1 v2 v3 := by
  obtain ⟨n, hn⟩ : ∃ n, N = n + 1 + 1 + 1 := ⟨N - 3, by omega⟩
  have e : ∀ M, M = n + 1 + 1 + 1 → m130_25 N A M b u f (i : Int) 0 c0 v1 v2 v3 = A b (u || unkP v1 (v3.getD i ⟨0, 0⟩)) f ((i + 1 : Nat) : Int) c0 v1 v2 v3 := by
    rintro M rfl
    have s0 : m130_25 N A (n + 1 + 1 + 1) b u f (i : Int) 0 c0 v1 v2 v3 = m130_25 N A (n + 1 + 1) b (u || (ltI (v3.getD i ⟨0, 0⟩).x 0 || leI v1 (v3.getD i ⟨0, 0⟩).x)) f (i : Int) 1 c0 v1 v2 v3 := by
      rw [m130_25_succ]
      unfold c130_25
      rw [ltI_true (by omega : (0 : Int) < 2), cond_true, leI_zero, ltI_true (by omega : (i : Int) < (v3.length : Int)), Int.toNat_natCast]
      cases u
      · simp only [cond_false, Bool.false_or, must_tt]
        cases ltI (v3.getD i ⟨0, 0⟩).x 0 <;> rfl
      · rfl
    have s1 : ∀ u', m130_25 N A (n + 1 + 1) b u' f (i : Int) 1 c0 v1 v2 v3 = m130_25 N A (n + 1) b (u' || (ltI (v3.getD i ⟨0, 0⟩).y 0 || leI v1 (v3.getD i ⟨0, 0⟩).y)) f (i : Int) 2 c0 v1 v2 v3 := by
      intro u'
      rw [m130_25_succ]
      unfold c130_25
      rw [ltI_true (by omega : (1 : Int) < 2), cond_true, leI_zero, ltI_true (by omega : (i : Int) < (v3.length : Int)), Int.toNat_natCast]
      cases u'
      · simp only [cond_false, Bool.false_or, must_tt]
        cases ltI (v3.getD i ⟨0, 0⟩).y 0 <;> rfl
      · rfl
    rw [s0, s1, m130_25_succ]
    unfold c130_25
    rw [ltI_false (by omega), cond_false, wr_add1 (by omega)]
    unfold unkP
    rw [Bool.or_assoc]
  exact e N hn
theorem run_22 : ∀ (l : List Pr) (i n : Nat) (b u f : Bool), v3.drop i = l → i + l.length = v3.length → l.length < n → v3.length < 1000000 →
    m130_22 N n b u f (i : Int) c0 v1 v2 v3 = some (cond b 4 (cond (u || l.any (unkP v1)) 10 (cond f 3 0)), ())
  | [], i, n + 1, b, u, f, hd, hl, hn, hb => by
    simp only [List.length_nil] at hl
    rw [m130_22_succ]
    unfold c130_22
    rw [ltI_false (by omega), cond_false]
    cases b <;> cases u <;> cases f <;> rfl
  | r :: l, i, n + 1, b, u, f, hd, hl, hn, hb => by
    have hi : i < v3.length := by simp only [List.length_cons] at hl; omega
    have hr : v3.getD i ⟨0, 0⟩ = r := by
      rw [List.drop_eq_getElem_cons hi] at hd
      rw [List.getD_eq_getElem?_getD, List.getElem?_eq_getElem hi]
      exact (List.cons.inj hd).1
    have hd' : v3.drop (i + 1) = l := by
      rw [List.drop_eq_getElem_cons hi] at hd
      exact (List.cons.inj hd).2
    rw [m130_22_succ]
    unfold c130_22
    rw [ltI_true (by omega : (i : Int) < (v3.length : Int)), cond_true, run_25 hN c0 v1 v2 v3 _ _ _ _ i hi hb, hr]
    rw [run_22 l (i + 1) n _ _ _ hd' (by simp only [List.length_cons] at hl; omega) (by simp only [List.length_cons] at hn; omega) hb]
    simp only [List.any_cons, Bool.or_assoc]
theorem q130_eq : q130 N c0 v1 v2 v3 = some (mayF c0 v1 v2 v3, ()) := by
  unfold q130 mayF
  cases h1 : ltI 8 c0
  case true => rfl
  cases h2 : ltI 200 v1
  case true => rfl
  cases h3 : ltI 64 (v2.length : Int)
  case true => rfl
  cases h4 : ltI 200 (v3.length : Int)
  case true => rfl
  cases h5 : ltI c0 0
  case true => rfl
  cases h6 : ltI v1 0
  case true => rfl
  cases h7 : ltI (v2.length : Int) c0
  case true => rfl
  have l3 : v2.length ≤ 64 := by
    have := of_decide_eq_false h3
    omega
  have l4 : v3.length ≤ 200 := by
    have := of_decide_eq_false h4
    omega
  simp only [cond_false, Bool.or_self]
  have e := run_7 hN c0 v1 v2 v3 v2 0 N false false false rfl (by omega) (by omega) (by omega)
  have e2 := fun b u f => run_22 hN c0 v1 v2 v3 v3 0 N b u f rfl (by omega) (by omega) (by omega)
  refine e.trans ((e2 _ _ _).trans ?_)
  simp only [Bool.false_or]
end ref
end Go.Proofs.Ytgimohchocjgcaa.V
