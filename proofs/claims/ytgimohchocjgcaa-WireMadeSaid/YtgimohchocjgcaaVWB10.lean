import Derived.Test.YtgimohchocjgcaaVWB7
import Derived.KernelRfl
set_option linter.unusedVariables false
set_option linter.unusedSimpArgs false
namespace Go.Proofs.Ytgimohchocjgcaa.V
section
theorem zlT {α : Type} (a b : Bool) (x y : α) : cond a x (cond b x y) = cond (a || b) x y := by cases a <;> rfl
theorem zwJ (x y z : Int) : ltI (mnI x y) z = (ltI x z || ltI y z) := by
  have e : ∀ a b : Int, ltI a b = decide (a < b) := fun _ _ => rfl
  unfold mnI
  by_cases h : y < x
  . rw [zaa h, cond_true]
    by_cases h2 : y < z
    . rw [zaa h2, Bool.or_true]
    . rw [zab h2, zab (show ¬ x < z by omega)]; rfl
  . rw [zab h, cond_false]
    by_cases h2 : x < z
    . rw [zaa h2, Bool.true_or]
    . rw [zab h2, zab (show ¬ y < z by omega)]; rfl
theorem zBN (x y z : Int) : leI z (mxI x y) = (leI z x || leI z y) := by
  by_cases h : x < y
  . rw [show mxI x y = y by unfold mxI; first | rw [zaa h, cond_true] | (simp [ltI, leI]; omega)]
    by_cases h2 : z <= y
    . rw [zaJ h2, Bool.or_true]
    . rw [zap h2, zap (show ¬ z <= x by omega)]; rfl
  . rw [show mxI x y = x by unfold mxI; first | rw [zab h, cond_false] | (simp [ltI, leI]; omega)]
    by_cases h2 : z <= x
    . rw [zaJ h2, Bool.true_or]
    . rw [zap h2, zap (show ¬ z <= y by omega)]; rfl
theorem zBO (x y : Int) : leI x y = !ltI y x := by
  by_cases h : y < x
  . rw [zaa h, zap (by omega)]; rfl
  . rw [zab h, zaJ (by omega)]; rfl
theorem zrw {l : List Row} {r : Row} {m : List Row} {i : Nat} (hd : m.drop i = r :: l) (hi : i < m.length) : m.getD i zrow = r /\ m.drop (i + 1) = l := by
  rw [List.drop_eq_getElem_cons hi] at hd
  refine ⟨?_, (List.cons.inj hd).2⟩
  rw [List.getD_eq_getElem?_getD, List.getElem?_eq_getElem hi]
  exact (List.cons.inj hd).1
theorem zBP {l : List Pr} {r : Pr} {m : List Pr} {i : Nat} (hd : m.drop i = r :: l) (hi : i < m.length) : m.getD i ⟨0, 0⟩ = r /\ m.drop (i + 1) = l := by
  rw [List.drop_eq_getElem_cons hi] at hd
  refine ⟨?_, (List.cons.inj hd).2⟩
  rw [List.getD_eq_getElem?_getD, List.getElem?_eq_getElem hi]
  exact (List.cons.inj hd).1
section prog
variable {N : Nat} (hN : 2000 <= N) (c0 v1 : Int) (v2 : List Row) (v3 : List Pr)
include hN
theorem zbu (A : (List Row) -> Int -> Int -> Option (Bool × Unit)) (n : Nat) (t8 : List Row) (t9 t10 : Int) (q : List Fr) (hq : q.length = 8) (k : Nat) (hk : k < 8) :
    zez N A (n + 1) t8 t9 t10 q (k : Int) = cond (bg (q.getD k Fr.zero)) (some (false, ())) (zez N A n t8 t9 t10 q ((k + 1 : Nat) : Int)) := by
  rw [zgK]
  unfold zhU
  rw [zaa (by omega : (k : Int) < 8), cond_true, zaf, zaa (by omega : (k : Int) < ((8 : Nat) : Int)), hq, zaa (by omega : (k : Int) < ((8 : Nat) : Int)), zat (by omega), Int.toNat_natCast, zzr (show 10 < N by omega)]
  simp only [bsm, Bool.and_self, mst2]
  rfl
theorem zrx (A : (List Row) -> Int -> Int -> Option (Bool × Unit)) (t8 : List Row) (t9 t10 : Int) (r : Row) :
    zez N A N t8 t9 t10 [r.q0, r.q1, r.q2, r.q3, r.q4, r.q5, r.q6, r.q7] 0 = cond (bigR r) (some (false, ())) (A t8 t9 (wr (t10 + 1))) := by
  obtain ⟨n, hn⟩ : ∃ n, N = n + 1 + 1 + 1 + 1 + 1 + 1 + 1 + 1 + 1 := ⟨N - 9, by omega⟩
  have e : ∀ M, M = n + 1 + 1 + 1 + 1 + 1 + 1 + 1 + 1 + 1 -> zez N A M t8 t9 t10 [r.q0, r.q1, r.q2, r.q3, r.q4, r.q5, r.q6, r.q7] ((0 : Nat) : Int) = cond (bigR r) (some (false, ())) (A t8 t9 (wr (t10 + 1))) := by
    rintro M rfl
    have hl : [r.q0, r.q1, r.q2, r.q3, r.q4, r.q5, r.q6, r.q7].length = 8 := rfl
    rw [zbu hN A _ _ _ _ _ hl 0 (by omega), zbu hN A _ _ _ _ _ hl 1 (by omega), zbu hN A _ _ _ _ _ hl 2 (by omega), zbu hN A _ _ _ _ _ hl 3 (by omega), zbu hN A _ _ _ _ _ hl 4 (by omega), zbu hN A _ _ _ _ _ hl 5 (by omega), zbu hN A _ _ _ _ _ hl 6 (by omega), zbu hN A _ _ _ _ _ hl 7 (by omega), zgK]
    unfold zhU
    rw [zab (by omega), cond_false]
    simp only [zlT]
    unfold bigR
    simp only [Bool.or_assoc]
    rfl
  exact e N hn
theorem zjY : ∀ (l : List Row) (i n : Nat), v2.drop i = l -> i + l.length = v2.length -> l.length < n -> v2.length < 1000000 ->
    zhW N n v2 (v2.length : Int) (i : Int) = some (!l.any bigR, ())
  | [], i, n + 1, hd, hl, hn, hb => by
    simp only [List.length_nil] at hl
    rw [zgL]
    unfold zhV
    rw [zab (by omega), cond_false]
    rfl
  | r :: l, i, n + 1, hd, hl, hn, hb => by
    simp only [List.length_cons] at hl hn
    obtain ⟨hr, hd'⟩ := zrw hd (by omega)
    rw [zgL]
    unfold zhV
    rw [zaa (by omega : (i : Int) < (v2.length : Int)), cond_true, zaf, zgu, Int.toNat_natCast, hr, zrx hN, zat (by omega), zjY l (i + 1) n hd' (by omega) (by omega) hb, List.any_cons]
    cases bigR r <;> rfl
theorem zwK (hb : v2.length < 1000) : q200 N c0 v1 v2 v3 = some (!v2.any bigR, ()) :=
  zjY hN v2 v2 0 N rfl (by omega) (by omega) (by omega)
theorem ze4 (A : (List Row) -> Int -> Int -> Int -> Int -> (List Row) -> (List Pr) -> Option (Bool × Unit)) (n : Nat) (t8 : List Row) (t9 t10 : Int) (q : List Int) (hq : q.length = 3) (k : Nat) (hk : k < 3) :
    zeA N A (n + 1) t8 t9 t10 q (k : Int) c0 v1 v2 v3 = cond (leI v1 (q.getD k 0)) (some (false, ())) (zeA N A n t8 t9 t10 q ((k + 1 : Nat) : Int) c0 v1 v2 v3) := by
  have _ := hN
  rw [zgM]
  unfold zhX
  rw [zaa (by omega : (k : Int) < 3), cond_true, zaf, zaa (by omega : (k : Int) < ((3 : Nat) : Int)), hq, zaa (by omega : (k : Int) < ((3 : Nat) : Int)), zat (by omega), Int.toNat_natCast]
  simp only [Bool.and_self, mst2]
theorem zry (A : (List Row) -> Int -> Int -> Int -> Int -> (List Row) -> (List Pr) -> Option (Bool × Unit)) (t8 : List Row) (t9 t10 : Int) (r : Row) :
    zeA N A N t8 t9 t10 [r.w0, r.w1, r.w2] 0 c0 v1 v2 v3 = cond (unkR v1 r) (some (false, ())) (A t8 t9 (wr (t10 + 1)) c0 v1 v2 v3) := by
  obtain ⟨n, hn⟩ : ∃ n, N = n + 1 + 1 + 1 + 1 := ⟨N - 4, by omega⟩
  have e : ∀ M, M = n + 1 + 1 + 1 + 1 -> zeA N A M t8 t9 t10 [r.w0, r.w1, r.w2] ((0 : Nat) : Int) c0 v1 v2 v3 = cond (unkR v1 r) (some (false, ())) (A t8 t9 (wr (t10 + 1)) c0 v1 v2 v3) := by
    rintro M rfl
    have hl : [r.w0, r.w1, r.w2].length = 3 := rfl
    rw [ze4 hN c0 v1 v2 v3 A _ _ _ _ _ hl 0 (by omega), ze4 hN c0 v1 v2 v3 A _ _ _ _ _ hl 1 (by omega), ze4 hN c0 v1 v2 v3 A _ _ _ _ _ hl 2 (by omega), zgM]
    unfold zhX
    rw [zab (by omega), cond_false]
    simp only [zlT]
    unfold unkR
    simp only [Bool.or_assoc]
    rfl
  exact e N hn
theorem zie : ∀ (l : List Pr) (i n : Nat), v3.drop i = l -> i + l.length = v3.length -> l.length < n -> v3.length < 1000000 ->
    zd0 N n v3 (v3.length : Int) (i : Int) c0 v1 v2 v3 = some (!l.any (unkP v1), ())
  | [], i, n + 1, hd, hl, hn, hb => by
    have _ := hN
    simp only [List.length_nil] at hl
    rw [zfr]
    unfold ze0
    rw [zab (by omega), cond_false]
    rfl
  | r :: l, i, n + 1, hd, hl, hn, hb => by
    simp only [List.length_cons] at hl hn
    obtain ⟨hr, hd'⟩ := zBP hd (by omega)
    rw [zfr]
    unfold ze0
    rw [zaa (by omega : (i : Int) < (v3.length : Int)), cond_true, zaf, zgu, Int.toNat_natCast, hr, zat (by omega), zie l (i + 1) n hd' (by omega) (by omega) hb, List.any_cons, zwJ, zBN]
    unfold unkP
    cases ltI r.x 0 <;> cases ltI r.y 0 <;> cases leI v1 r.x <;> cases leI v1 r.y <;> rfl
theorem zjZ : ∀ (l : List Row) (i n : Nat), v2.drop i = l -> i + l.length = v2.length -> l.length < n -> v2.length < 1000000 ->
    zhZ N n v2 (v2.length : Int) (i : Int) c0 v1 v2 v3 = cond (l.any (unkR v1)) (some (false, ())) (zd0 N N v3 (v3.length : Int) 0 c0 v1 v2 v3)
  | [], i, n + 1, hd, hl, hn, hb => by
    simp only [List.length_nil] at hl
    rw [zgN]
    unfold zhY
    rw [zab (by omega), cond_false]
    rfl
  | r :: l, i, n + 1, hd, hl, hn, hb => by
    simp only [List.length_cons] at hl hn
    obtain ⟨hr, hd'⟩ := zrw hd (by omega)
    rw [zgN]
    unfold zhY
    rw [zaa (by omega : (i : Int) < (v2.length : Int)), cond_true, zaf, zgu, Int.toNat_natCast, hr, zry hN, zat (by omega), zjZ l (i + 1) n hd' (by omega) (by omega) hb, List.any_cons, zlT]
theorem zwL (hb : v2.length < 1000) (hb3 : v3.length < 1000) : q201 N c0 v1 v2 v3 = some (!(v2.any (unkR v1) || v3.any (unkP v1)), ()) := by
  refine (zjZ hN c0 v1 v2 v3 v2 0 N rfl (by omega) (by omega) (by omega)).trans ?_
  have e := zie hN c0 v1 v2 v3 v3 0 N rfl (by omega) (by omega) (by omega)
  cases v2.any (unkR v1)
  . exact e
  . rfl
theorem zwM (r : Row) : q220 N r = some (!zfx r, ()) := by
  have _ := hN
  unfold q220 zfx
  rw [ztN]
  simp only [bsm]
  rw [show List.length [zdo r.w0] = 1 from rfl, zaa (show (0 : Int) < ((1 : Nat) : Int) by omega), show [zdo r.w0].getD 0 zrow = zdo r.w0 from rfl, mst2, zBO]
  cases ltI r.w0 0 <;> simp
theorem zj0 : ∀ (l : List Row) (i n : Nat), v2.drop i = l -> i + l.length = v2.length -> l.length < n -> v2.length < 1000000 ->
    zh1 N n v2 (v2.length : Int) (i : Int) c0 v1 v2 v3 = some (!zfB c0 i l, ())
  | [], i, n + 1, hd, hl, hn, hb => by
    simp only [List.length_nil] at hl
    rw [zgO]
    unfold zh0
    rw [zab (by omega), cond_false]
    rfl
  | r :: l, i, n + 1, hd, hl, hn, hb => by
    simp only [List.length_cons] at hl hn
    obtain ⟨hr, hd'⟩ := zrw hd (by omega)
    rw [zgO]
    unfold zh0
    rw [zaa (by omega : (i : Int) < (v2.length : Int)), cond_true, zaf, zgu, Int.toNat_natCast, hr, zay, zwM hN, zat (by omega), zj0 l (i + 1) n hd' (by omega) (by omega) hb, zwJ, zwJ]
    simp only [bsm, Bool.not_not]
    rw [show zfB c0 i (r :: l) = ((lowR r || (ltI (i : Int) c0 && zfx r)) || zfB c0 (i + 1) l) from rfl]
    unfold lowR
    cases ltI (i : Int) c0 <;> cases zfx r <;> cases ltI r.w0 (-1) <;> cases ltI r.w1 (-1) <;> cases ltI r.w2 (-1) <;> rfl
theorem zwN (hb : v2.length < 1000) : q202 N c0 v1 v2 v3 = some (!zfB c0 0 v2, ()) :=
  zj0 hN c0 v1 v2 v3 v2 0 N rfl (by omega) (by omega) (by omega)
theorem zrz (hb : v2.length < 1000) (hb3 : v3.length < 1000) : q119 N c0 v1 v2 v3 = some (mayF c0 v1 v2 v3, ()) := by
  unfold q119 mayF
  rw [zwK hN c0 v1 v2 v3 hb, zwL hN c0 v1 v2 v3 hb hb3, zwN hN c0 v1 v2 v3 hb]
  simp only [bsm, Bool.not_not]
  generalize ltI 8 c0 = a1
  generalize ltI 200 v1 = a2
  generalize ltI 64 (v2.length : Int) = a3
  generalize ltI 200 (v3.length : Int) = a4
  generalize ltI c0 0 = a5
  generalize ltI v1 0 = a6
  generalize ltI (v2.length : Int) c0 = a7
  generalize v2.any bigR = b1
  generalize (v2.any (unkR v1) || v3.any (unkP v1)) = b2
  generalize zfB c0 0 v2 = b3
  cases a1 <;> cases a2 <;> cases a3 <;> cases a4 <;> simp only [cond_true, cond_false, Bool.true_or, Bool.or_true, Bool.false_or, Bool.or_false]
  cases a5 <;> cases a6 <;> cases a7 <;> simp only [cond_true, cond_false, Bool.true_or, Bool.or_true, Bool.false_or, Bool.or_false]
  cases b1 <;> cases b2 <;> cases b3 <;> rfl
end prog
structure GoodCirc (c0 v1 : Int) (v2 : List Row) (v3 : List Pr) : Prop where
  p0 : 0 <= c0
  p8 : c0 <= 8
  v0 : 0 <= v1
  v200 : v1 <= 200
  rows : v2.length <= 64
  same : v3.length <= 200
  pub : c0 <= (v2.length : Int)
  big : v2.any bigR = false
  unk : v2.any (unkR v1) = false
  unkp : v3.any (unkP v1) = false
  form : zfB c0 0 v2 = false
theorem GoodCirc.may {c0 v1 : Int} {v2 : List Row} {v3 : List Pr} (h : GoodCirc c0 v1 v2 v3) : mayF c0 v1 v2 v3 = 0 := by
  have := h.p0
  have := h.p8
  have := h.v0
  have := h.v200
  have := h.rows
  have := h.same
  have := h.pub
  unfold mayF
  rw [zab (by omega : ¬ 8 < c0), zab (by omega : ¬ 200 < v1), zab (by omega : ¬ 64 < (v2.length : Int)), zab (by omega : ¬ 200 < (v3.length : Int)), zab (by omega : ¬ c0 < 0), zab (by omega : ¬ v1 < 0), zab (by omega : ¬ (v2.length : Int) < c0), h.big, h.unk, h.unkp, h.form]
  rfl
theorem GoodCirc.pairs {c0 v1 : Int} {v2 : List Row} {v3 : List Pr} (h : GoodCirc c0 v1 v2 v3) {V : Nat} (hV : v1 = (V : Int)) : zbO v3 V := by
  intro p hp
  have h2 := List.any_eq_false.mp h.unkp p hp
  unfold unkP at h2
  simp only [Bool.or_eq_true, not_or, Bool.not_eq_true] at h2
  obtain ⟨⟨a, b⟩, c, d⟩ := h2
  have := of_decide_eq_false a
  have := of_decide_eq_false b
  have := of_decide_eq_false c
  have := of_decide_eq_false d
  subst hV
  omega
theorem zj1 {P : Int} : ∀ {l : List Row} {i : Nat}, zfB P i l = false -> ∀ r ∈ l, lowR r = false
  | [], _, _, r, hr => absurd hr (by simp)
  | x :: l, i, h, r, hr => by
    unfold zfB at h
    simp only [Bool.or_eq_false_iff] at h
    rcases List.mem_cons.mp hr with rfl | hr
    . exact h.1.1
    . exact zj1 h.2 r hr
theorem GoodCirc.vars {c0 v1 : Int} {v2 : List Row} {v3 : List Pr} (h : GoodCirc c0 v1 v2 v3) {r : Row} (hr : r ∈ v2) (j : Nat) : -1 <= rw3 r j /\ rw3 r j < v1 := by
  have h1 := List.any_eq_false.mp h.unk r hr
  have h2 := zj1 h.form r hr
  unfold unkR at h1
  unfold lowR at h2
  simp only [Bool.or_eq_true, not_or, Bool.not_eq_true] at h1
  simp only [Bool.or_eq_false_iff] at h2
  obtain ⟨⟨a, b⟩, c⟩ := h1
  obtain ⟨⟨a', b'⟩, c'⟩ := h2
  have := of_decide_eq_false a
  have := of_decide_eq_false b
  have := of_decide_eq_false c
  have := of_decide_eq_false a'
  have := of_decide_eq_false b'
  have := of_decide_eq_false c'
  match j with
  | 0 => exact ⟨by simp only [rw3]; omega, by simp only [rw3]; omega⟩
  | 1 => exact ⟨by simp only [rw3]; omega, by simp only [rw3]; omega⟩
  | _ + 2 => exact ⟨by simp only [rw3]; omega, by simp only [rw3]; omega⟩
end
section
def zcg (k : Nat -> Int) (M x y : Nat) : Prop :=
  (k x < 0 /\ y = x) \/ (0 <= k x /\ ∃ d, 1 <= d /\ d <= M /\ y = (x + d) % M /\ k y = k x /\ ∀ e, 1 <= e -> e < d -> k ((x + e) % M) ≠ k x)
theorem zhd {k : Nat -> Int} {M x y z : Nat} (h1 : zcg k M x y) (h2 : zcg k M x z) : y = z := by
  rcases h1 with ⟨a, b⟩ | ⟨a, d, d1, d2, d3, d4, d5⟩
  . rcases h2 with ⟨a', b'⟩ | ⟨a', _⟩
    . rw [b, b']
    . omega
  . rcases h2 with ⟨a', _⟩ | ⟨a', e, e1, e2, e3, e4, e5⟩
    . omega
    . by_cases h : d < e
      . exact absurd (d3 ▸ d4) (e5 d d1 h)
      . by_cases h' : e < d
        . exact absurd (e3 ▸ e4) (d5 e e1 h')
        . rw [d3, e3, show d = e by omega]
def up (m j i : Nat) (v : Int) (o : List Int) : List Int := if j = m then setL o i v else o
def oG (n : Nat) (o0 o1 o2 : List Int) (z : Nat) : Int := if z / n = 0 then o0.getD (z % n) 0 else if z / n = 1 then o1.getD (z % n) 0 else o2.getD (z % n) 0
theorem zrA (m j i : Nat) (v : Int) (o : List Int) : (up m j i v o).length = o.length := by
  unfold up
  split
  . rw [zaA]
  . rfl
theorem cell {n j i : Nat} (hi : i < n) : (j * n + i) / n = j /\ (j * n + i) % n = i := by
  have h0 : 0 < n := by omega
  refine ⟨?_, ?_⟩
  . rw [Nat.mul_comm, Nat.mul_add_div h0, Nat.div_eq_of_lt hi, Nat.add_zero]
  . rw [Nat.mul_comm, Nat.mul_add_mod, Nat.mod_eq_of_lt hi]
theorem zrB {n z : Nat} (j i : Nat) (hi : i < n) : z = j * n + i ↔ z / n = j /\ z % n = i := by
  constructor
  . rintro rfl; exact cell hi
  . rintro ⟨h1, h2⟩
    have := Nat.div_add_mod z n
    rw [h1, h2, Nat.mul_comm] at this
    exact this.symm
theorem zwO {n j i : Nat} {v : Int} {o0 o1 o2 : List Int} (hi : i < n) (hj : j < 3) (h0 : j = 0 -> o0.length = n) (h1 : j = 1 -> o1.length = n) (h2 : j = 2 -> o2.length = n) (z : Nat) (hz : z < 3 * n) :
    oG n (up 0 j i v o0) (up 1 j i v o1) (up 2 j i v o2) z = if z = j * n + i then v else oG n o0 o1 o2 z := by
  have hz2 : z / n < 3 := Nat.div_lt_of_lt_mul (by omega)
  by_cases hc : z = j * n + i
  . rw [if_pos hc]
    obtain ⟨e1, e2⟩ := (zrB j i hi).mp hc
    unfold oG up
    rw [e1, e2]
    obtain rfl | rfl | rfl : j = 0 \/ j = 1 \/ j = 2 := by omega
    . show (setL o0 i v).getD i 0 = v
      rw [zaS, if_pos ⟨rfl, by rw [h0 rfl]; exact hi⟩]
    . show (setL o1 i v).getD i 0 = v
      rw [zaS, if_pos ⟨rfl, by rw [h1 rfl]; exact hi⟩]
    . show (setL o2 i v).getD i 0 = v
      rw [zaS, if_pos ⟨rfl, by rw [h2 rfl]; exact hi⟩]
  . rw [if_neg hc]
    have hn : ¬ (z / n = j /\ z % n = i) := fun h => hc ((zrB j i hi).mpr h)
    unfold oG up
    by_cases a0 : z / n = 0
    . rw [if_pos a0, if_pos a0]
      split
      . rename_i hj0; rw [zaS, if_neg (fun h => hn ⟨by omega, h.1⟩)]
      . rfl
    . rw [if_neg a0, if_neg a0]
      by_cases a1 : z / n = 1
      . rw [if_pos a1, if_pos a1]
        split
        . rename_i hj1; rw [zaS, if_neg (fun h => hn ⟨by omega, h.1⟩)]
        . rfl
      . rw [if_neg a1, if_neg a1]
        split
        . rename_i hj2
          have q2 : ∀ q : Nat, q < 3 -> q ≠ 0 -> q ≠ 1 -> q = 2 := by omega
          rw [zaS, if_neg (fun h => hn ⟨(q2 _ hz2 a0 a1).trans hj2.symm, h.1⟩)]
        . rfl
structure PInv (k : Nat -> Int) (V n a : Nat) (fi la : List Int) (O : Nat -> Int) : Prop where
  lf : fi.length = V
  ll : la.length = V
  F : ∀ c : Nat, c < V -> (fi.getD c 0 = -1 /\ ∀ z, z < a -> k z ≠ c) \/ ∃ f g : Nat, fi.getD c 0 = f /\ la.getD c 0 = g /\ f <= g /\ g < a /\ k f = c /\ k g = c /\ (∀ z, z < f -> k z ≠ c) /\ ∀ z, g < z -> z < a -> k z ≠ c
  O : ∀ z, z < a -> (k z < 0 /\ O z = z) \/ ∃ c : Nat, c < V /\ k z = c /\ ((∃ y : Nat, z < y /\ y < a /\ k y = c /\ (∀ w, z < w -> w < y -> k w ≠ c) /\ O z = y) \/ ((∀ w, z < w -> w < a -> k w ≠ c) /\ O z = fi.getD c 0))
theorem ztO {k : Nat -> Int} {V n a : Nat} {fi la : List Int} {O O' : Nat -> Int} (h : PInv k V n a fi la O) (hk : k a < 0) (e1 : ∀ z, z < a -> O' z = O z) (e2 : O' a = a) : PInv k V n (a + 1) fi la O' := by
  refine ⟨h.lf, h.ll, fun c hc => ?_, fun z hz => ?_⟩
  . rcases h.F c hc with ⟨h1, h2⟩ | ⟨f, g, h1, h2, h3, h4, h5, h6, h7, h8⟩
    . refine .inl ⟨h1, fun z hz => ?_⟩
      by_cases e : z = a
      . subst e; omega
      . exact h2 z (by omega)
    . refine .inr ⟨f, g, h1, h2, h3, by omega, h5, h6, h7, fun z hz hz2 => ?_⟩
      by_cases e : z = a
      . subst e; omega
      . exact h8 z hz (by omega)
  . by_cases e : z = a
    . subst e; exact .inl ⟨hk, e2⟩
    . rw [e1 z (by omega)]
      rcases h.O z (by omega) with h1 | ⟨c, h1, h2, ⟨y, y1, y2, y3, y4, y5⟩ | ⟨h3, h4⟩⟩
      . exact .inl h1
      . exact .inr ⟨c, h1, h2, .inl ⟨y, y1, by omega, y3, y4, y5⟩⟩
      . refine .inr ⟨c, h1, h2, .inr ⟨fun w hw hw2 => ?_, h4⟩⟩
        by_cases e : w = a
        . subst e; omega
        . exact h3 w hw (by omega)
theorem zwP {k : Nat -> Int} {V n a c : Nat} {fi la : List Int} {O O' : Nat -> Int} (h : PInv k V n a fi la O) (hc : c < V) (hk : k a = c) (hf : fi.getD c 0 < 0) (e1 : ∀ z, z < a -> O' z = O z) (e2 : O' a = a) : PInv k V n (a + 1) (setL fi c (a : Int)) (setL la c (a : Int)) O' := by
  obtain ⟨f1, f2⟩ : fi.getD c 0 = -1 /\ ∀ z, z < a -> k z ≠ c := by
    rcases h.F c hc with h1 | ⟨f, g, h1, _⟩
    . exact h1
    . omega
  refine ⟨by rw [zaA]; exact h.lf, by rw [zaA]; exact h.ll, fun c' hc' => ?_, fun z hz => ?_⟩
  . rw [zaS, zaS, h.lf, h.ll]
    by_cases ec : c' = c
    . rw [if_pos ⟨ec, hc⟩, if_pos ⟨ec, hc⟩]
      subst ec
      exact .inr ⟨a, a, rfl, rfl, Nat.le_refl _, by omega, hk, hk, f2, fun z hz hz2 => by omega⟩
    . rw [if_neg (fun h => ec h.1), if_neg (fun h => ec h.1)]
      rcases h.F c' hc' with ⟨h1, h2⟩ | ⟨f, g, h1, h2, h3, h4, h5, h6, h7, h8⟩
      . refine .inl ⟨h1, fun z hz => ?_⟩
        by_cases e : z = a
        . subst e; omega
        . exact h2 z (by omega)
      . refine .inr ⟨f, g, h1, h2, h3, by omega, h5, h6, h7, fun z hz hz2 => ?_⟩
        by_cases e : z = a
        . subst e; omega
        . exact h8 z hz (by omega)
  . by_cases e : z = a
    . subst e
      refine .inr ⟨c, hc, hk, .inr ⟨fun w hw hw2 => by omega, ?_⟩⟩
      rw [zaS, h.lf, if_pos ⟨rfl, hc⟩]
      exact e2
    . rw [e1 z (by omega)]
      rcases h.O z (by omega) with h1 | ⟨c', h1, h2, ⟨y, y1, y2, y3, y4, y5⟩ | ⟨h3, h4⟩⟩
      . exact .inl h1
      . exact .inr ⟨c', h1, h2, .inl ⟨y, y1, by omega, y3, y4, y5⟩⟩
      . have ec : c' ≠ c := by rintro rfl; exact f2 z (by omega) h2
        refine .inr ⟨c', h1, h2, .inr ⟨fun w hw hw2 => ?_, ?_⟩⟩
        . by_cases e : w = a
          . subst e; omega
          . exact h3 w hw (by omega)
        . rw [zaS, if_neg (fun h => ec h.1)]
          exact h4
theorem ztP {k : Nat -> Int} {V n a c g : Nat} {fi la : List Int} {O O' : Nat -> Int} (h : PInv k V n a fi la O) (hc : c < V) (hk : k a = c) (hf : ¬ fi.getD c 0 < 0) (hg : la.getD c 0 = g) (e1 : ∀ z, z < a -> z ≠ g -> O' z = O z) (e2 : O' g = a) (e3 : O' a = fi.getD c 0) : PInv k V n (a + 1) fi (setL la c (a : Int)) O' := by
  obtain ⟨f, f1, f3, f4, f5, f6, f7, f8⟩ : ∃ f : Nat, fi.getD c 0 = f /\ f <= g /\ g < a /\ k f = c /\ k g = c /\ (∀ z, z < f -> k z ≠ c) /\ ∀ z, g < z -> z < a -> k z ≠ c := by
    rcases h.F c hc with h1 | ⟨f, g', h1, h2, h3⟩
    . omega
    . obtain rfl : g' = g := by omega
      exact ⟨f, h1, h3⟩
  refine ⟨h.lf, by rw [zaA]; exact h.ll, fun c' hc' => ?_, fun z hz => ?_⟩
  . rw [zaS, h.ll]
    by_cases ec : c' = c
    . rw [if_pos ⟨ec, hc⟩]
      subst ec
      exact .inr ⟨f, a, f1, rfl, by omega, by omega, f5, hk, f7, fun z hz hz2 => by omega⟩
    . rw [if_neg (fun h => ec h.1)]
      rcases h.F c' hc' with ⟨h1, h2⟩ | ⟨f, g, h1, h2, h3, h4, h5, h6, h7, h8⟩
      . refine .inl ⟨h1, fun z hz => ?_⟩
        by_cases e : z = a
        . subst e; omega
        . exact h2 z (by omega)
      . refine .inr ⟨f, g, h1, h2, h3, by omega, h5, h6, h7, fun z hz hz2 => ?_⟩
        by_cases e : z = a
        . subst e; omega
        . exact h8 z hz (by omega)
  . by_cases e : z = a
    . subst e
      exact .inr ⟨c, hc, hk, .inr ⟨fun w hw hw2 => by omega, e3⟩⟩
    . by_cases eg : z = g
      . subst eg
        exact .inr ⟨c, hc, f6, .inl ⟨a, f4, by omega, hk, f8, e2⟩⟩
      . rw [e1 z (by omega) eg]
        rcases h.O z (by omega) with h1 | ⟨c', h1, h2, ⟨y, y1, y2, y3, y4, y5⟩ | ⟨h3, h4⟩⟩
        . exact .inl h1
        . exact .inr ⟨c', h1, h2, .inl ⟨y, y1, by omega, y3, y4, y5⟩⟩
        . have ec : c' ≠ c := by
            rintro rfl
            by_cases hzg : z < g
            . exact h3 g hzg f4 f6
            . exact f8 z (by omega) (by omega) h2
          refine .inr ⟨c', h1, h2, .inr ⟨fun w hw hw2 => ?_, h4⟩⟩
          by_cases e : w = a
          . subst e; omega
          . exact h3 w hw (by omega)
theorem zwQ {k : Nat -> Int} {V n M : Nat} {fi la : List Int} {O : Nat -> Int} (h : PInv k V n M fi la O) {z : Nat} (hz : z < M) : ∃ y : Nat, O z = y /\ zcg k M z y := by
  rcases h.O z hz with ⟨h1, h2⟩ | ⟨c, h1, h2, ⟨y, y1, y2, y3, y4, y5⟩ | ⟨h3, h4⟩⟩
  . exact ⟨z, h2, .inl ⟨h1, rfl⟩⟩
  . refine ⟨y, y5, .inr ⟨by omega, y - z, by omega, by omega, ?_, by omega, fun e he1 he2 => ?_⟩⟩
    . rw [show z + (y - z) = y by omega, Nat.mod_eq_of_lt y2]
    . rw [Nat.mod_eq_of_lt (by omega), h2]
      exact y4 _ (by omega) (by omega)
  . rcases h.F c h1 with ⟨f1, f2⟩ | ⟨f, g, f1, f2, f3, f4, f5, f6, f7, f8⟩
    . exact absurd h2 (f2 z hz)
    . have hfz : f <= z := by
        by_cases hlt : z < f
        . exact absurd h2 (f7 z hlt)
        . omega
      refine ⟨f, h4.trans f1, .inr ⟨by omega, M - (z - f), by omega, by omega, ?_, by omega, fun e he1 he2 => ?_⟩⟩
      . rw [show z + (M - (z - f)) = M + f by omega, Nat.add_mod_left, Nat.mod_eq_of_lt (by omega)]
      . rw [h2]
        by_cases hM : z + e < M
        . rw [Nat.mod_eq_of_lt hM]
          exact h3 _ (by omega) hM
        . rw [show z + e = M + (z + e - M) by omega, Nat.add_mod_left, Nat.mod_eq_of_lt (by omega)]
          exact f7 _ (by omega)
def varC (rows : List Row) (n z : Nat) : Int := if rows.length <= z % n then -1 else rw3 (rows.getD (z % n) zrow) (z / n)
def kC (cl : List Int) (rows : List Row) (n z : Nat) : Int := if varC rows n z < 0 then -1 else cl.getD (varC rows n z).toNat 0
end
section
theorem zzR {N f nn i : Nat} (A : Int -> Int -> Int -> Int -> (List Row) -> (List Pr) -> (List Int) -> (List Int) -> (List Int) -> (List Int) -> (List Int) -> (List Int) -> (List Int) -> (List Int) -> (List Int) -> Option ((List Int × List Int × List Int × Unit) × Int × Unit)) (t54 c0 v1 : Int) (rows : List Row) (S : List Pr) (cl fi la x y z o0 o1 o2 : List Int) (hb : nn <= 64) (hi : i < nn) (ho : o0.length = nn) (hs : rows.length <= i \/ Row.w0 (rows.getD i zrow) < 0) :
    zaB N A (f + 1) (nn : Int) ((0 : Nat) : Int) t54 (nn : Int) (i : Int) c0 v1 rows S cl fi la x y z o0 o1 o2 = zaB N A f (nn : Int) ((0 : Nat) : Int) t54 (nn : Int) ((i + 1 : Nat) : Int) c0 v1 rows S cl fi la x y z (up 0 0 i ((0 * nn + i : Nat) : Int) o0) (up 1 0 i ((0 * nn + i : Nat) : Int) o1) (up 2 0 i ((0 * nn + i : Nat) : Int) o2) := by
  have hat : wr (wr (((0 : Nat) : Int) * (nn : Int)) + (i : Int)) = ((0 * nn + i : Nat) : Int) := by rw [show wr (((0 : Nat) : Int) * (nn : Int)) = ((0 : Nat) : Int) * (nn : Int) from zaX (by omega) (by omega), zaX (by omega) (by omega)]; omega
  have e0 : eqI ((0 : Nat) : Int) ((0 : Nat) : Int) = true := rfl
  have a1 : ltI (i : Int) (nn : Int) = true := zaa (by omega)
  have a2 : leI 0 (i : Int) = true := zaf _
  have a3 : wr ((i : Int) + 1) = ((i + 1 : Nat) : Int) := zat (by omega)
  rw [zaI]
  unfold zbf
  by_cases hr : rows.length <= i
  . have a4 : leI (rows.length : Int) (i : Int) = true := zaJ (by omega)
    simp only [a1, a2, a3, a4, e0, hat, ho, cond_true, cond_false, Bool.and_self, mst2, Int.toNat_natCast]
    rfl
  . have a4 : leI (rows.length : Int) (i : Int) = false := zap (by omega)
    have a5 : ltI (i : Int) (rows.length : Int) = true := zaa (by omega)
    have a6 : ltI (Row.w0 (rows.getD i zrow)) 0 = true := zaa (by omega)
    simp only [a1, a2, a3, a4, a5, a6, e0, hat, ho, cond_true, cond_false, Bool.and_self, mst2, Int.toNat_natCast]
    rfl
theorem zBQ {N f nn i : Nat} (A : Int -> Int -> Int -> Int -> (List Row) -> (List Pr) -> (List Int) -> (List Int) -> (List Int) -> (List Int) -> (List Int) -> (List Int) -> (List Int) -> (List Int) -> (List Int) -> Option ((List Int × List Int × List Int × Unit) × Int × Unit)) (t54 c0 v1 : Int) (rows : List Row) (S : List Pr) (cl fi la x y z o0 o1 o2 : List Int) (hb : nn <= 64) (hi : i < nn) (ho : o0.length = nn) (hr : i < rows.length) {v c V : Nat} (hw : Row.w0 (rows.getD i zrow) = (v : Int)) (hv : v < V) (hc : c < V) (hcl : cl.length = V) (hfi : fi.length = V) (hla : la.length = V) (hk : cl.getD v 0 = (c : Int)) (hn : fi.getD c 0 < 0) :
    zaB N A (f + 1) (nn : Int) ((0 : Nat) : Int) t54 (nn : Int) (i : Int) c0 v1 rows S cl fi la x y z o0 o1 o2 = zaB N A f (nn : Int) ((0 : Nat) : Int) t54 (nn : Int) ((i + 1 : Nat) : Int) c0 v1 rows S cl (setL fi c ((0 * nn + i : Nat) : Int)) (setL la c ((0 * nn + i : Nat) : Int)) x y z (up 0 0 i ((0 * nn + i : Nat) : Int) o0) (up 1 0 i ((0 * nn + i : Nat) : Int) o1) (up 2 0 i ((0 * nn + i : Nat) : Int) o2) := by
  have hat : wr (wr (((0 : Nat) : Int) * (nn : Int)) + (i : Int)) = ((0 * nn + i : Nat) : Int) := by rw [show wr (((0 : Nat) : Int) * (nn : Int)) = ((0 : Nat) : Int) * (nn : Int) from zaX (by omega) (by omega), zaX (by omega) (by omega)]; omega
  have e0 : eqI ((0 : Nat) : Int) ((0 : Nat) : Int) = true := rfl
  have a1 : ltI (i : Int) (nn : Int) = true := zaa (by omega)
  have a2 : leI 0 (i : Int) = true := zaf _
  have a3 : wr ((i : Int) + 1) = ((i + 1 : Nat) : Int) := zat (by omega)
  have a4 : leI (rows.length : Int) (i : Int) = false := zap (by omega)
  have a5 : ltI (i : Int) (rows.length : Int) = true := zaa (by omega)
  have a6 : ltI (v : Int) 0 = false := zab (by omega)
  have a7 : leI 0 (v : Int) = true := zaf _
  have a8 : ltI (v : Int) (V : Int) = true := zaa (by omega)
  have a9 : leI 0 (c : Int) = true := zaf _
  have a10 : ltI (c : Int) (V : Int) = true := zaa (by omega)
  have a11 : ltI (fi.getD c 0) 0 = true := zaa hn
  rw [zaI]
  unfold zbf
  simp only [a11, a1, a2, a3, a4, a5, a6, a7, a8, a9, a10, e0, hat, ho, hw, hk, hcl, hfi, hla, cond_true, cond_false, Bool.and_self, mst2, Int.toNat_natCast]
  rfl
theorem ztQ {N f nn i : Nat} (A : Int -> Int -> Int -> Int -> (List Row) -> (List Pr) -> (List Int) -> (List Int) -> (List Int) -> (List Int) -> (List Int) -> (List Int) -> (List Int) -> (List Int) -> (List Int) -> Option ((List Int × List Int × List Int × Unit) × Int × Unit)) (t54 c0 v1 : Int) (rows : List Row) (S : List Pr) (cl fi la x y z o0 o1 o2 : List Int) (hb : nn <= 64) (hi : i < nn) (ho : o0.length = nn) (hr : i < rows.length) {v c V : Nat} (hw : Row.w0 (rows.getD i zrow) = (v : Int)) (hv : v < V) (hc : c < V) (hcl : cl.length = V) (hfi : fi.length = V) (hla : la.length = V) (hk : cl.getD v 0 = (c : Int)) (hn : ¬ fi.getD c 0 < 0) {g : Nat} (hg : la.getD c 0 = (g : Int)) (hq : g / nn = 0) (hg9 : g < 1000000) :
    zaB N A (f + 1) (nn : Int) ((0 : Nat) : Int) t54 (nn : Int) (i : Int) c0 v1 rows S cl fi la x y z o0 o1 o2 = zaB N A f (nn : Int) ((0 : Nat) : Int) t54 (nn : Int) ((i + 1 : Nat) : Int) c0 v1 rows S cl fi (setL la c ((0 * nn + i : Nat) : Int)) x y z (up 0 0 i (fi.getD c 0) (up 0 0 (g % nn) ((0 * nn + i : Nat) : Int) (up 0 0 i ((0 * nn + i : Nat) : Int) o0))) (up 1 0 i (fi.getD c 0) (up 1 0 (g % nn) ((0 * nn + i : Nat) : Int) (up 1 0 i ((0 * nn + i : Nat) : Int) o1))) (up 2 0 i (fi.getD c 0) (up 2 0 (g % nn) ((0 * nn + i : Nat) : Int) (up 2 0 i ((0 * nn + i : Nat) : Int) o2))) := by
  have hat : wr (wr (((0 : Nat) : Int) * (nn : Int)) + (i : Int)) = ((0 * nn + i : Nat) : Int) := by rw [show wr (((0 : Nat) : Int) * (nn : Int)) = ((0 : Nat) : Int) * (nn : Int) from zaX (by omega) (by omega), zaX (by omega) (by omega)]; omega
  have e0 : eqI ((0 : Nat) : Int) ((0 : Nat) : Int) = true := rfl
  have a1 : ltI (i : Int) (nn : Int) = true := zaa (by omega)
  have a2 : leI 0 (i : Int) = true := zaf _
  have a3 : wr ((i : Int) + 1) = ((i + 1 : Nat) : Int) := zat (by omega)
  have a4 : leI (rows.length : Int) (i : Int) = false := zap (by omega)
  have a5 : ltI (i : Int) (rows.length : Int) = true := zaa (by omega)
  have a6 : ltI (v : Int) 0 = false := zab (by omega)
  have a7 : leI 0 (v : Int) = true := zaf _
  have a8 : ltI (v : Int) (V : Int) = true := zaa (by omega)
  have a9 : leI 0 (c : Int) = true := zaf _
  have a10 : ltI (c : Int) (V : Int) = true := zaa (by omega)
  have q0 : eqI ((0 : Nat) : Int) ((0 : Nat) : Int) = true := rfl
  have a11 : ltI (fi.getD c 0) 0 = false := zab hn
  have a12 : wr (Int.tdiv (g : Int) (nn : Int)) = ((0 : Nat) : Int) := by rw [zbU, zaX (by omega) (by omega), hq]
  have a13 : Int.tmod (g : Int) (nn : Int) = ((g % nn : Nat) : Int) := rfl
  have a14 : eqI (nn : Int) 0 = false := zaQ (by omega)
  have a15 : leI 0 ((g % nn : Nat) : Int) = true := zaf _
  have a16 : ltI ((g % nn : Nat) : Int) (nn : Int) = true := zaa (by have := Nat.mod_lt g (show 0 < nn by omega); omega)
  rw [zaI]
  unfold zbf
  simp only [a11, a12, a13, a14, a15, a16, hg, q0, zaA, Bool.not_false, a1, a2, a3, a4, a5, a6, a7, a8, a9, a10, e0, hat, ho, hw, hk, hcl, hfi, hla, cond_true, cond_false, Bool.and_self, mst2, Int.toNat_natCast]
  rfl
theorem zzS {N f nn i : Nat} (A : Int -> Int -> Int -> Int -> (List Row) -> (List Pr) -> (List Int) -> (List Int) -> (List Int) -> (List Int) -> (List Int) -> (List Int) -> (List Int) -> (List Int) -> (List Int) -> Option ((List Int × List Int × List Int × Unit) × Int × Unit)) (t54 c0 v1 : Int) (rows : List Row) (S : List Pr) (cl fi la x y z o0 o1 o2 : List Int) (hb : nn <= 64) (hi : i < nn) (ho : o1.length = nn) (hs : rows.length <= i \/ Row.w1 (rows.getD i zrow) < 0) :
    zaB N A (f + 1) (nn : Int) ((1 : Nat) : Int) t54 (nn : Int) (i : Int) c0 v1 rows S cl fi la x y z o0 o1 o2 = zaB N A f (nn : Int) ((1 : Nat) : Int) t54 (nn : Int) ((i + 1 : Nat) : Int) c0 v1 rows S cl fi la x y z (up 0 1 i ((1 * nn + i : Nat) : Int) o0) (up 1 1 i ((1 * nn + i : Nat) : Int) o1) (up 2 1 i ((1 * nn + i : Nat) : Int) o2) := by
  have hat : wr (wr (((1 : Nat) : Int) * (nn : Int)) + (i : Int)) = ((1 * nn + i : Nat) : Int) := by rw [show wr (((1 : Nat) : Int) * (nn : Int)) = ((1 : Nat) : Int) * (nn : Int) from zaX (by omega) (by omega), zaX (by omega) (by omega)]; omega
  have e0 : eqI ((1 : Nat) : Int) ((0 : Nat) : Int) = false := rfl
  have e1 : eqI ((1 : Nat) : Int) (((0 : Nat) + (1 : Nat) : Nat) : Int) = true := rfl
  have a1 : ltI (i : Int) (nn : Int) = true := zaa (by omega)
  have a2 : leI 0 (i : Int) = true := zaf _
  have a3 : wr ((i : Int) + 1) = ((i + 1 : Nat) : Int) := zat (by omega)
  rw [zaI]
  unfold zbf
  by_cases hr : rows.length <= i
  . have a4 : leI (rows.length : Int) (i : Int) = true := zaJ (by omega)
    simp only [a1, a2, a3, a4, e0, e1, hat, ho, cond_true, cond_false, Bool.and_self, mst2, Int.toNat_natCast]
    rfl
  . have a4 : leI (rows.length : Int) (i : Int) = false := zap (by omega)
    have a5 : ltI (i : Int) (rows.length : Int) = true := zaa (by omega)
    have a6 : ltI (Row.w1 (rows.getD i zrow)) 0 = true := zaa (by omega)
    simp only [a1, a2, a3, a4, a5, a6, e0, e1, hat, ho, cond_true, cond_false, Bool.and_self, mst2, Int.toNat_natCast]
    rfl
theorem zBR {N f nn i : Nat} (A : Int -> Int -> Int -> Int -> (List Row) -> (List Pr) -> (List Int) -> (List Int) -> (List Int) -> (List Int) -> (List Int) -> (List Int) -> (List Int) -> (List Int) -> (List Int) -> Option ((List Int × List Int × List Int × Unit) × Int × Unit)) (t54 c0 v1 : Int) (rows : List Row) (S : List Pr) (cl fi la x y z o0 o1 o2 : List Int) (hb : nn <= 64) (hi : i < nn) (ho : o1.length = nn) (hr : i < rows.length) {v c V : Nat} (hw : Row.w1 (rows.getD i zrow) = (v : Int)) (hv : v < V) (hc : c < V) (hcl : cl.length = V) (hfi : fi.length = V) (hla : la.length = V) (hk : cl.getD v 0 = (c : Int)) (hn : fi.getD c 0 < 0) :
    zaB N A (f + 1) (nn : Int) ((1 : Nat) : Int) t54 (nn : Int) (i : Int) c0 v1 rows S cl fi la x y z o0 o1 o2 = zaB N A f (nn : Int) ((1 : Nat) : Int) t54 (nn : Int) ((i + 1 : Nat) : Int) c0 v1 rows S cl (setL fi c ((1 * nn + i : Nat) : Int)) (setL la c ((1 * nn + i : Nat) : Int)) x y z (up 0 1 i ((1 * nn + i : Nat) : Int) o0) (up 1 1 i ((1 * nn + i : Nat) : Int) o1) (up 2 1 i ((1 * nn + i : Nat) : Int) o2) := by
  have hat : wr (wr (((1 : Nat) : Int) * (nn : Int)) + (i : Int)) = ((1 * nn + i : Nat) : Int) := by rw [show wr (((1 : Nat) : Int) * (nn : Int)) = ((1 : Nat) : Int) * (nn : Int) from zaX (by omega) (by omega), zaX (by omega) (by omega)]; omega
  have e0 : eqI ((1 : Nat) : Int) ((0 : Nat) : Int) = false := rfl
  have e1 : eqI ((1 : Nat) : Int) (((0 : Nat) + (1 : Nat) : Nat) : Int) = true := rfl
  have a1 : ltI (i : Int) (nn : Int) = true := zaa (by omega)
  have a2 : leI 0 (i : Int) = true := zaf _
  have a3 : wr ((i : Int) + 1) = ((i + 1 : Nat) : Int) := zat (by omega)
  have a4 : leI (rows.length : Int) (i : Int) = false := zap (by omega)
  have a5 : ltI (i : Int) (rows.length : Int) = true := zaa (by omega)
  have a6 : ltI (v : Int) 0 = false := zab (by omega)
  have a7 : leI 0 (v : Int) = true := zaf _
  have a8 : ltI (v : Int) (V : Int) = true := zaa (by omega)
  have a9 : leI 0 (c : Int) = true := zaf _
  have a10 : ltI (c : Int) (V : Int) = true := zaa (by omega)
  have a11 : ltI (fi.getD c 0) 0 = true := zaa hn
  rw [zaI]
  unfold zbf
  simp only [a11, a1, a2, a3, a4, a5, a6, a7, a8, a9, a10, e0, e1, hat, ho, hw, hk, hcl, hfi, hla, cond_true, cond_false, Bool.and_self, mst2, Int.toNat_natCast]
  rfl
theorem ztR {N f nn i : Nat} (A : Int -> Int -> Int -> Int -> (List Row) -> (List Pr) -> (List Int) -> (List Int) -> (List Int) -> (List Int) -> (List Int) -> (List Int) -> (List Int) -> (List Int) -> (List Int) -> Option ((List Int × List Int × List Int × Unit) × Int × Unit)) (t54 c0 v1 : Int) (rows : List Row) (S : List Pr) (cl fi la x y z o0 o1 o2 : List Int) (hb : nn <= 64) (hi : i < nn) (ho : o1.length = nn) (hoq : o0.length = nn) (hr : i < rows.length) {v c V : Nat} (hw : Row.w1 (rows.getD i zrow) = (v : Int)) (hv : v < V) (hc : c < V) (hcl : cl.length = V) (hfi : fi.length = V) (hla : la.length = V) (hk : cl.getD v 0 = (c : Int)) (hn : ¬ fi.getD c 0 < 0) {g : Nat} (hg : la.getD c 0 = (g : Int)) (hq : g / nn = 0) (hg9 : g < 1000000) :
    zaB N A (f + 1) (nn : Int) ((1 : Nat) : Int) t54 (nn : Int) (i : Int) c0 v1 rows S cl fi la x y z o0 o1 o2 = zaB N A f (nn : Int) ((1 : Nat) : Int) t54 (nn : Int) ((i + 1 : Nat) : Int) c0 v1 rows S cl fi (setL la c ((1 * nn + i : Nat) : Int)) x y z (up 0 1 i (fi.getD c 0) (up 0 0 (g % nn) ((1 * nn + i : Nat) : Int) (up 0 1 i ((1 * nn + i : Nat) : Int) o0))) (up 1 1 i (fi.getD c 0) (up 1 0 (g % nn) ((1 * nn + i : Nat) : Int) (up 1 1 i ((1 * nn + i : Nat) : Int) o1))) (up 2 1 i (fi.getD c 0) (up 2 0 (g % nn) ((1 * nn + i : Nat) : Int) (up 2 1 i ((1 * nn + i : Nat) : Int) o2))) := by
  have hat : wr (wr (((1 : Nat) : Int) * (nn : Int)) + (i : Int)) = ((1 * nn + i : Nat) : Int) := by rw [show wr (((1 : Nat) : Int) * (nn : Int)) = ((1 : Nat) : Int) * (nn : Int) from zaX (by omega) (by omega), zaX (by omega) (by omega)]; omega
  have e0 : eqI ((1 : Nat) : Int) ((0 : Nat) : Int) = false := rfl
  have e1 : eqI ((1 : Nat) : Int) (((0 : Nat) + (1 : Nat) : Nat) : Int) = true := rfl
  have a1 : ltI (i : Int) (nn : Int) = true := zaa (by omega)
  have a2 : leI 0 (i : Int) = true := zaf _
  have a3 : wr ((i : Int) + 1) = ((i + 1 : Nat) : Int) := zat (by omega)
  have a4 : leI (rows.length : Int) (i : Int) = false := zap (by omega)
  have a5 : ltI (i : Int) (rows.length : Int) = true := zaa (by omega)
  have a6 : ltI (v : Int) 0 = false := zab (by omega)
  have a7 : leI 0 (v : Int) = true := zaf _
  have a8 : ltI (v : Int) (V : Int) = true := zaa (by omega)
  have a9 : leI 0 (c : Int) = true := zaf _
  have a10 : ltI (c : Int) (V : Int) = true := zaa (by omega)
  have q0 : eqI ((0 : Nat) : Int) ((0 : Nat) : Int) = true := rfl
  have a11 : ltI (fi.getD c 0) 0 = false := zab hn
  have a12 : wr (Int.tdiv (g : Int) (nn : Int)) = ((0 : Nat) : Int) := by rw [zbU, zaX (by omega) (by omega), hq]
  have a13 : Int.tmod (g : Int) (nn : Int) = ((g % nn : Nat) : Int) := rfl
  have a14 : eqI (nn : Int) 0 = false := zaQ (by omega)
  have a15 : leI 0 ((g % nn : Nat) : Int) = true := zaf _
  have a16 : ltI ((g % nn : Nat) : Int) (nn : Int) = true := zaa (by have := Nat.mod_lt g (show 0 < nn by omega); omega)
  rw [zaI]
  unfold zbf
  simp only [a11, a12, a13, a14, a15, a16, hg, q0, hoq, zaA, Bool.not_false, a1, a2, a3, a4, a5, a6, a7, a8, a9, a10, e0, e1, hat, ho, hw, hk, hcl, hfi, hla, cond_true, cond_false, Bool.and_self, mst2, Int.toNat_natCast]
  rfl
theorem ztS {N f nn i : Nat} (A : Int -> Int -> Int -> Int -> (List Row) -> (List Pr) -> (List Int) -> (List Int) -> (List Int) -> (List Int) -> (List Int) -> (List Int) -> (List Int) -> (List Int) -> (List Int) -> Option ((List Int × List Int × List Int × Unit) × Int × Unit)) (t54 c0 v1 : Int) (rows : List Row) (S : List Pr) (cl fi la x y z o0 o1 o2 : List Int) (hb : nn <= 64) (hi : i < nn) (ho : o1.length = nn) (hr : i < rows.length) {v c V : Nat} (hw : Row.w1 (rows.getD i zrow) = (v : Int)) (hv : v < V) (hc : c < V) (hcl : cl.length = V) (hfi : fi.length = V) (hla : la.length = V) (hk : cl.getD v 0 = (c : Int)) (hn : ¬ fi.getD c 0 < 0) {g : Nat} (hg : la.getD c 0 = (g : Int)) (hq : g / nn = 1) (hg9 : g < 1000000) :
    zaB N A (f + 1) (nn : Int) ((1 : Nat) : Int) t54 (nn : Int) (i : Int) c0 v1 rows S cl fi la x y z o0 o1 o2 = zaB N A f (nn : Int) ((1 : Nat) : Int) t54 (nn : Int) ((i + 1 : Nat) : Int) c0 v1 rows S cl fi (setL la c ((1 * nn + i : Nat) : Int)) x y z (up 0 1 i (fi.getD c 0) (up 0 1 (g % nn) ((1 * nn + i : Nat) : Int) (up 0 1 i ((1 * nn + i : Nat) : Int) o0))) (up 1 1 i (fi.getD c 0) (up 1 1 (g % nn) ((1 * nn + i : Nat) : Int) (up 1 1 i ((1 * nn + i : Nat) : Int) o1))) (up 2 1 i (fi.getD c 0) (up 2 1 (g % nn) ((1 * nn + i : Nat) : Int) (up 2 1 i ((1 * nn + i : Nat) : Int) o2))) := by
  have hat : wr (wr (((1 : Nat) : Int) * (nn : Int)) + (i : Int)) = ((1 * nn + i : Nat) : Int) := by rw [show wr (((1 : Nat) : Int) * (nn : Int)) = ((1 : Nat) : Int) * (nn : Int) from zaX (by omega) (by omega), zaX (by omega) (by omega)]; omega
  have e0 : eqI ((1 : Nat) : Int) ((0 : Nat) : Int) = false := rfl
  have e1 : eqI ((1 : Nat) : Int) (((0 : Nat) + (1 : Nat) : Nat) : Int) = true := rfl
  have a1 : ltI (i : Int) (nn : Int) = true := zaa (by omega)
  have a2 : leI 0 (i : Int) = true := zaf _
  have a3 : wr ((i : Int) + 1) = ((i + 1 : Nat) : Int) := zat (by omega)
  have a4 : leI (rows.length : Int) (i : Int) = false := zap (by omega)
  have a5 : ltI (i : Int) (rows.length : Int) = true := zaa (by omega)
  have a6 : ltI (v : Int) 0 = false := zab (by omega)
  have a7 : leI 0 (v : Int) = true := zaf _
  have a8 : ltI (v : Int) (V : Int) = true := zaa (by omega)
  have a9 : leI 0 (c : Int) = true := zaf _
  have a10 : ltI (c : Int) (V : Int) = true := zaa (by omega)
  have q0 : eqI ((1 : Nat) : Int) ((0 : Nat) : Int) = false := rfl
  have q1 : eqI ((1 : Nat) : Int) (((0 : Nat) + (1 : Nat) : Nat) : Int) = true := rfl
  have a11 : ltI (fi.getD c 0) 0 = false := zab hn
  have a12 : wr (Int.tdiv (g : Int) (nn : Int)) = ((1 : Nat) : Int) := by rw [zbU, zaX (by omega) (by omega), hq]
  have a13 : Int.tmod (g : Int) (nn : Int) = ((g % nn : Nat) : Int) := rfl
  have a14 : eqI (nn : Int) 0 = false := zaQ (by omega)
  have a15 : leI 0 ((g % nn : Nat) : Int) = true := zaf _
  have a16 : ltI ((g % nn : Nat) : Int) (nn : Int) = true := zaa (by have := Nat.mod_lt g (show 0 < nn by omega); omega)
  rw [zaI]
  unfold zbf
  simp only [a11, a12, a13, a14, a15, a16, hg, q0, q1, zaA, Bool.not_false, a1, a2, a3, a4, a5, a6, a7, a8, a9, a10, e0, e1, hat, ho, hw, hk, hcl, hfi, hla, cond_true, cond_false, Bool.and_self, mst2, Int.toNat_natCast]
  rfl
theorem zzT {N f nn i : Nat} (A : Int -> Int -> Int -> Int -> (List Row) -> (List Pr) -> (List Int) -> (List Int) -> (List Int) -> (List Int) -> (List Int) -> (List Int) -> (List Int) -> (List Int) -> (List Int) -> Option ((List Int × List Int × List Int × Unit) × Int × Unit)) (t54 c0 v1 : Int) (rows : List Row) (S : List Pr) (cl fi la x y z o0 o1 o2 : List Int) (hb : nn <= 64) (hi : i < nn) (ho : o2.length = nn) (hs : rows.length <= i \/ Row.w2 (rows.getD i zrow) < 0) :
    zaB N A (f + 1) (nn : Int) ((2 : Nat) : Int) t54 (nn : Int) (i : Int) c0 v1 rows S cl fi la x y z o0 o1 o2 = zaB N A f (nn : Int) ((2 : Nat) : Int) t54 (nn : Int) ((i + 1 : Nat) : Int) c0 v1 rows S cl fi la x y z (up 0 2 i ((2 * nn + i : Nat) : Int) o0) (up 1 2 i ((2 * nn + i : Nat) : Int) o1) (up 2 2 i ((2 * nn + i : Nat) : Int) o2) := by
  have hat : wr (wr (((2 : Nat) : Int) * (nn : Int)) + (i : Int)) = ((2 * nn + i : Nat) : Int) := by rw [show wr (((2 : Nat) : Int) * (nn : Int)) = ((2 : Nat) : Int) * (nn : Int) from zaX (by omega) (by omega), zaX (by omega) (by omega)]; omega
  have e0 : eqI ((2 : Nat) : Int) ((0 : Nat) : Int) = false := rfl
  have e1 : eqI ((2 : Nat) : Int) (((0 : Nat) + (1 : Nat) : Nat) : Int) = false := rfl
  have e2 : eqI ((2 : Nat) : Int) (((0 : Nat) + (1 : Nat) + (1 : Nat) : Nat) : Int) = true := rfl
  have a1 : ltI (i : Int) (nn : Int) = true := zaa (by omega)
  have a2 : leI 0 (i : Int) = true := zaf _
  have a3 : wr ((i : Int) + 1) = ((i + 1 : Nat) : Int) := zat (by omega)
  rw [zaI]
  unfold zbf
  by_cases hr : rows.length <= i
  . have a4 : leI (rows.length : Int) (i : Int) = true := zaJ (by omega)
    simp only [a1, a2, a3, a4, e0, e1, e2, hat, ho, cond_true, cond_false, Bool.and_self, mst2, Int.toNat_natCast]
    rfl
  . have a4 : leI (rows.length : Int) (i : Int) = false := zap (by omega)
    have a5 : ltI (i : Int) (rows.length : Int) = true := zaa (by omega)
    have a6 : ltI (Row.w2 (rows.getD i zrow)) 0 = true := zaa (by omega)
    simp only [a1, a2, a3, a4, a5, a6, e0, e1, e2, hat, ho, cond_true, cond_false, Bool.and_self, mst2, Int.toNat_natCast]
    rfl
theorem zBS {N f nn i : Nat} (A : Int -> Int -> Int -> Int -> (List Row) -> (List Pr) -> (List Int) -> (List Int) -> (List Int) -> (List Int) -> (List Int) -> (List Int) -> (List Int) -> (List Int) -> (List Int) -> Option ((List Int × List Int × List Int × Unit) × Int × Unit)) (t54 c0 v1 : Int) (rows : List Row) (S : List Pr) (cl fi la x y z o0 o1 o2 : List Int) (hb : nn <= 64) (hi : i < nn) (ho : o2.length = nn) (hr : i < rows.length) {v c V : Nat} (hw : Row.w2 (rows.getD i zrow) = (v : Int)) (hv : v < V) (hc : c < V) (hcl : cl.length = V) (hfi : fi.length = V) (hla : la.length = V) (hk : cl.getD v 0 = (c : Int)) (hn : fi.getD c 0 < 0) :
    zaB N A (f + 1) (nn : Int) ((2 : Nat) : Int) t54 (nn : Int) (i : Int) c0 v1 rows S cl fi la x y z o0 o1 o2 = zaB N A f (nn : Int) ((2 : Nat) : Int) t54 (nn : Int) ((i + 1 : Nat) : Int) c0 v1 rows S cl (setL fi c ((2 * nn + i : Nat) : Int)) (setL la c ((2 * nn + i : Nat) : Int)) x y z (up 0 2 i ((2 * nn + i : Nat) : Int) o0) (up 1 2 i ((2 * nn + i : Nat) : Int) o1) (up 2 2 i ((2 * nn + i : Nat) : Int) o2) := by
  have hat : wr (wr (((2 : Nat) : Int) * (nn : Int)) + (i : Int)) = ((2 * nn + i : Nat) : Int) := by rw [show wr (((2 : Nat) : Int) * (nn : Int)) = ((2 : Nat) : Int) * (nn : Int) from zaX (by omega) (by omega), zaX (by omega) (by omega)]; omega
  have e0 : eqI ((2 : Nat) : Int) ((0 : Nat) : Int) = false := rfl
  have e1 : eqI ((2 : Nat) : Int) (((0 : Nat) + (1 : Nat) : Nat) : Int) = false := rfl
  have e2 : eqI ((2 : Nat) : Int) (((0 : Nat) + (1 : Nat) + (1 : Nat) : Nat) : Int) = true := rfl
  have a1 : ltI (i : Int) (nn : Int) = true := zaa (by omega)
  have a2 : leI 0 (i : Int) = true := zaf _
  have a3 : wr ((i : Int) + 1) = ((i + 1 : Nat) : Int) := zat (by omega)
  have a4 : leI (rows.length : Int) (i : Int) = false := zap (by omega)
  have a5 : ltI (i : Int) (rows.length : Int) = true := zaa (by omega)
  have a6 : ltI (v : Int) 0 = false := zab (by omega)
  have a7 : leI 0 (v : Int) = true := zaf _
  have a8 : ltI (v : Int) (V : Int) = true := zaa (by omega)
  have a9 : leI 0 (c : Int) = true := zaf _
  have a10 : ltI (c : Int) (V : Int) = true := zaa (by omega)
  have a11 : ltI (fi.getD c 0) 0 = true := zaa hn
  rw [zaI]
  unfold zbf
  simp only [a11, a1, a2, a3, a4, a5, a6, a7, a8, a9, a10, e0, e1, e2, hat, ho, hw, hk, hcl, hfi, hla, cond_true, cond_false, Bool.and_self, mst2, Int.toNat_natCast]
  rfl
theorem ztT {N f nn i : Nat} (A : Int -> Int -> Int -> Int -> (List Row) -> (List Pr) -> (List Int) -> (List Int) -> (List Int) -> (List Int) -> (List Int) -> (List Int) -> (List Int) -> (List Int) -> (List Int) -> Option ((List Int × List Int × List Int × Unit) × Int × Unit)) (t54 c0 v1 : Int) (rows : List Row) (S : List Pr) (cl fi la x y z o0 o1 o2 : List Int) (hb : nn <= 64) (hi : i < nn) (ho : o2.length = nn) (hoq : o0.length = nn) (hr : i < rows.length) {v c V : Nat} (hw : Row.w2 (rows.getD i zrow) = (v : Int)) (hv : v < V) (hc : c < V) (hcl : cl.length = V) (hfi : fi.length = V) (hla : la.length = V) (hk : cl.getD v 0 = (c : Int)) (hn : ¬ fi.getD c 0 < 0) {g : Nat} (hg : la.getD c 0 = (g : Int)) (hq : g / nn = 0) (hg9 : g < 1000000) :
    zaB N A (f + 1) (nn : Int) ((2 : Nat) : Int) t54 (nn : Int) (i : Int) c0 v1 rows S cl fi la x y z o0 o1 o2 = zaB N A f (nn : Int) ((2 : Nat) : Int) t54 (nn : Int) ((i + 1 : Nat) : Int) c0 v1 rows S cl fi (setL la c ((2 * nn + i : Nat) : Int)) x y z (up 0 2 i (fi.getD c 0) (up 0 0 (g % nn) ((2 * nn + i : Nat) : Int) (up 0 2 i ((2 * nn + i : Nat) : Int) o0))) (up 1 2 i (fi.getD c 0) (up 1 0 (g % nn) ((2 * nn + i : Nat) : Int) (up 1 2 i ((2 * nn + i : Nat) : Int) o1))) (up 2 2 i (fi.getD c 0) (up 2 0 (g % nn) ((2 * nn + i : Nat) : Int) (up 2 2 i ((2 * nn + i : Nat) : Int) o2))) := by
  have hat : wr (wr (((2 : Nat) : Int) * (nn : Int)) + (i : Int)) = ((2 * nn + i : Nat) : Int) := by rw [show wr (((2 : Nat) : Int) * (nn : Int)) = ((2 : Nat) : Int) * (nn : Int) from zaX (by omega) (by omega), zaX (by omega) (by omega)]; omega
  have e0 : eqI ((2 : Nat) : Int) ((0 : Nat) : Int) = false := rfl
  have e1 : eqI ((2 : Nat) : Int) (((0 : Nat) + (1 : Nat) : Nat) : Int) = false := rfl
  have e2 : eqI ((2 : Nat) : Int) (((0 : Nat) + (1 : Nat) + (1 : Nat) : Nat) : Int) = true := rfl
  have a1 : ltI (i : Int) (nn : Int) = true := zaa (by omega)
  have a2 : leI 0 (i : Int) = true := zaf _
  have a3 : wr ((i : Int) + 1) = ((i + 1 : Nat) : Int) := zat (by omega)
  have a4 : leI (rows.length : Int) (i : Int) = false := zap (by omega)
  have a5 : ltI (i : Int) (rows.length : Int) = true := zaa (by omega)
  have a6 : ltI (v : Int) 0 = false := zab (by omega)
  have a7 : leI 0 (v : Int) = true := zaf _
  have a8 : ltI (v : Int) (V : Int) = true := zaa (by omega)
  have a9 : leI 0 (c : Int) = true := zaf _
  have a10 : ltI (c : Int) (V : Int) = true := zaa (by omega)
  have q0 : eqI ((0 : Nat) : Int) ((0 : Nat) : Int) = true := rfl
  have a11 : ltI (fi.getD c 0) 0 = false := zab hn
  have a12 : wr (Int.tdiv (g : Int) (nn : Int)) = ((0 : Nat) : Int) := by rw [zbU, zaX (by omega) (by omega), hq]
  have a13 : Int.tmod (g : Int) (nn : Int) = ((g % nn : Nat) : Int) := rfl
  have a14 : eqI (nn : Int) 0 = false := zaQ (by omega)
  have a15 : leI 0 ((g % nn : Nat) : Int) = true := zaf _
  have a16 : ltI ((g % nn : Nat) : Int) (nn : Int) = true := zaa (by have := Nat.mod_lt g (show 0 < nn by omega); omega)
  rw [zaI]
  unfold zbf
  simp only [a11, a12, a13, a14, a15, a16, hg, q0, hoq, zaA, Bool.not_false, a1, a2, a3, a4, a5, a6, a7, a8, a9, a10, e0, e1, e2, hat, ho, hw, hk, hcl, hfi, hla, cond_true, cond_false, Bool.and_self, mst2, Int.toNat_natCast]
  rfl
theorem ztU {N f nn i : Nat} (A : Int -> Int -> Int -> Int -> (List Row) -> (List Pr) -> (List Int) -> (List Int) -> (List Int) -> (List Int) -> (List Int) -> (List Int) -> (List Int) -> (List Int) -> (List Int) -> Option ((List Int × List Int × List Int × Unit) × Int × Unit)) (t54 c0 v1 : Int) (rows : List Row) (S : List Pr) (cl fi la x y z o0 o1 o2 : List Int) (hb : nn <= 64) (hi : i < nn) (ho : o2.length = nn) (hoq : o1.length = nn) (hr : i < rows.length) {v c V : Nat} (hw : Row.w2 (rows.getD i zrow) = (v : Int)) (hv : v < V) (hc : c < V) (hcl : cl.length = V) (hfi : fi.length = V) (hla : la.length = V) (hk : cl.getD v 0 = (c : Int)) (hn : ¬ fi.getD c 0 < 0) {g : Nat} (hg : la.getD c 0 = (g : Int)) (hq : g / nn = 1) (hg9 : g < 1000000) :
    zaB N A (f + 1) (nn : Int) ((2 : Nat) : Int) t54 (nn : Int) (i : Int) c0 v1 rows S cl fi la x y z o0 o1 o2 = zaB N A f (nn : Int) ((2 : Nat) : Int) t54 (nn : Int) ((i + 1 : Nat) : Int) c0 v1 rows S cl fi (setL la c ((2 * nn + i : Nat) : Int)) x y z (up 0 2 i (fi.getD c 0) (up 0 1 (g % nn) ((2 * nn + i : Nat) : Int) (up 0 2 i ((2 * nn + i : Nat) : Int) o0))) (up 1 2 i (fi.getD c 0) (up 1 1 (g % nn) ((2 * nn + i : Nat) : Int) (up 1 2 i ((2 * nn + i : Nat) : Int) o1))) (up 2 2 i (fi.getD c 0) (up 2 1 (g % nn) ((2 * nn + i : Nat) : Int) (up 2 2 i ((2 * nn + i : Nat) : Int) o2))) := by
  have hat : wr (wr (((2 : Nat) : Int) * (nn : Int)) + (i : Int)) = ((2 * nn + i : Nat) : Int) := by rw [show wr (((2 : Nat) : Int) * (nn : Int)) = ((2 : Nat) : Int) * (nn : Int) from zaX (by omega) (by omega), zaX (by omega) (by omega)]; omega
  have e0 : eqI ((2 : Nat) : Int) ((0 : Nat) : Int) = false := rfl
  have e1 : eqI ((2 : Nat) : Int) (((0 : Nat) + (1 : Nat) : Nat) : Int) = false := rfl
  have e2 : eqI ((2 : Nat) : Int) (((0 : Nat) + (1 : Nat) + (1 : Nat) : Nat) : Int) = true := rfl
  have a1 : ltI (i : Int) (nn : Int) = true := zaa (by omega)
  have a2 : leI 0 (i : Int) = true := zaf _
  have a3 : wr ((i : Int) + 1) = ((i + 1 : Nat) : Int) := zat (by omega)
  have a4 : leI (rows.length : Int) (i : Int) = false := zap (by omega)
  have a5 : ltI (i : Int) (rows.length : Int) = true := zaa (by omega)
  have a6 : ltI (v : Int) 0 = false := zab (by omega)
  have a7 : leI 0 (v : Int) = true := zaf _
  have a8 : ltI (v : Int) (V : Int) = true := zaa (by omega)
  have a9 : leI 0 (c : Int) = true := zaf _
  have a10 : ltI (c : Int) (V : Int) = true := zaa (by omega)
  have q0 : eqI ((1 : Nat) : Int) ((0 : Nat) : Int) = false := rfl
  have q1 : eqI ((1 : Nat) : Int) (((0 : Nat) + (1 : Nat) : Nat) : Int) = true := rfl
  have a11 : ltI (fi.getD c 0) 0 = false := zab hn
  have a12 : wr (Int.tdiv (g : Int) (nn : Int)) = ((1 : Nat) : Int) := by rw [zbU, zaX (by omega) (by omega), hq]
  have a13 : Int.tmod (g : Int) (nn : Int) = ((g % nn : Nat) : Int) := rfl
  have a14 : eqI (nn : Int) 0 = false := zaQ (by omega)
  have a15 : leI 0 ((g % nn : Nat) : Int) = true := zaf _
  have a16 : ltI ((g % nn : Nat) : Int) (nn : Int) = true := zaa (by have := Nat.mod_lt g (show 0 < nn by omega); omega)
  rw [zaI]
  unfold zbf
  simp only [a11, a12, a13, a14, a15, a16, hg, q0, q1, hoq, zaA, Bool.not_false, a1, a2, a3, a4, a5, a6, a7, a8, a9, a10, e0, e1, e2, hat, ho, hw, hk, hcl, hfi, hla, cond_true, cond_false, Bool.and_self, mst2, Int.toNat_natCast]
  rfl
theorem ztV {N f nn i : Nat} (A : Int -> Int -> Int -> Int -> (List Row) -> (List Pr) -> (List Int) -> (List Int) -> (List Int) -> (List Int) -> (List Int) -> (List Int) -> (List Int) -> (List Int) -> (List Int) -> Option ((List Int × List Int × List Int × Unit) × Int × Unit)) (t54 c0 v1 : Int) (rows : List Row) (S : List Pr) (cl fi la x y z o0 o1 o2 : List Int) (hb : nn <= 64) (hi : i < nn) (ho : o2.length = nn) (hr : i < rows.length) {v c V : Nat} (hw : Row.w2 (rows.getD i zrow) = (v : Int)) (hv : v < V) (hc : c < V) (hcl : cl.length = V) (hfi : fi.length = V) (hla : la.length = V) (hk : cl.getD v 0 = (c : Int)) (hn : ¬ fi.getD c 0 < 0) {g : Nat} (hg : la.getD c 0 = (g : Int)) (hq : g / nn = 2) (hg9 : g < 1000000) :
    zaB N A (f + 1) (nn : Int) ((2 : Nat) : Int) t54 (nn : Int) (i : Int) c0 v1 rows S cl fi la x y z o0 o1 o2 = zaB N A f (nn : Int) ((2 : Nat) : Int) t54 (nn : Int) ((i + 1 : Nat) : Int) c0 v1 rows S cl fi (setL la c ((2 * nn + i : Nat) : Int)) x y z (up 0 2 i (fi.getD c 0) (up 0 2 (g % nn) ((2 * nn + i : Nat) : Int) (up 0 2 i ((2 * nn + i : Nat) : Int) o0))) (up 1 2 i (fi.getD c 0) (up 1 2 (g % nn) ((2 * nn + i : Nat) : Int) (up 1 2 i ((2 * nn + i : Nat) : Int) o1))) (up 2 2 i (fi.getD c 0) (up 2 2 (g % nn) ((2 * nn + i : Nat) : Int) (up 2 2 i ((2 * nn + i : Nat) : Int) o2))) := by
  have hat : wr (wr (((2 : Nat) : Int) * (nn : Int)) + (i : Int)) = ((2 * nn + i : Nat) : Int) := by rw [show wr (((2 : Nat) : Int) * (nn : Int)) = ((2 : Nat) : Int) * (nn : Int) from zaX (by omega) (by omega), zaX (by omega) (by omega)]; omega
  have e0 : eqI ((2 : Nat) : Int) ((0 : Nat) : Int) = false := rfl
  have e1 : eqI ((2 : Nat) : Int) (((0 : Nat) + (1 : Nat) : Nat) : Int) = false := rfl
  have e2 : eqI ((2 : Nat) : Int) (((0 : Nat) + (1 : Nat) + (1 : Nat) : Nat) : Int) = true := rfl
  have a1 : ltI (i : Int) (nn : Int) = true := zaa (by omega)
  have a2 : leI 0 (i : Int) = true := zaf _
  have a3 : wr ((i : Int) + 1) = ((i + 1 : Nat) : Int) := zat (by omega)
  have a4 : leI (rows.length : Int) (i : Int) = false := zap (by omega)
  have a5 : ltI (i : Int) (rows.length : Int) = true := zaa (by omega)
  have a6 : ltI (v : Int) 0 = false := zab (by omega)
  have a7 : leI 0 (v : Int) = true := zaf _
  have a8 : ltI (v : Int) (V : Int) = true := zaa (by omega)
  have a9 : leI 0 (c : Int) = true := zaf _
  have a10 : ltI (c : Int) (V : Int) = true := zaa (by omega)
  have q0 : eqI ((2 : Nat) : Int) ((0 : Nat) : Int) = false := rfl
  have q1 : eqI ((2 : Nat) : Int) (((0 : Nat) + (1 : Nat) : Nat) : Int) = false := rfl
  have q2 : eqI ((2 : Nat) : Int) (((0 : Nat) + (1 : Nat) + (1 : Nat) : Nat) : Int) = true := rfl
  have a11 : ltI (fi.getD c 0) 0 = false := zab hn
  have a12 : wr (Int.tdiv (g : Int) (nn : Int)) = ((2 : Nat) : Int) := by rw [zbU, zaX (by omega) (by omega), hq]
  have a13 : Int.tmod (g : Int) (nn : Int) = ((g % nn : Nat) : Int) := rfl
  have a14 : eqI (nn : Int) 0 = false := zaQ (by omega)
  have a15 : leI 0 ((g % nn : Nat) : Int) = true := zaf _
  have a16 : ltI ((g % nn : Nat) : Int) (nn : Int) = true := zaa (by have := Nat.mod_lt g (show 0 < nn by omega); omega)
  rw [zaI]
  unfold zbf
  simp only [a11, a12, a13, a14, a15, a16, hg, q0, q1, q2, zaA, Bool.not_false, a1, a2, a3, a4, a5, a6, a7, a8, a9, a10, e0, e1, e2, hat, ho, hw, hk, hcl, hfi, hla, cond_true, cond_false, Bool.and_self, mst2, Int.toNat_natCast]
  rfl
end
end Go.Proofs.Ytgimohchocjgcaa.V
