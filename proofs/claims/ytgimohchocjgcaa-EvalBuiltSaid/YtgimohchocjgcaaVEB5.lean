import Derived.Test.YtgimohchocjgcaaVGH3
import Derived.KernelRfl
set_option linter.unusedVariables false
set_option linter.unusedSimpArgs false
namespace Go.Proofs.Ytgimohchocjgcaa.V
section
def valF (v : List Fr) (x : Int) : Fr := if x < 0 then Fr.zero else v.getD x.toNat Fr.zero
theorem zc5 {v : List Fr} (h : ∀ x ∈ v, Sc x) (x : Int) : Sc (valF v x) := by
  unfold valF
  split
  . exact zay
  . exact zfa h _
theorem zmt {N : Nat} (v : List Fr) (x : Int) : q208 N v x = some (valF v x, ()) := by
  unfold q208 valF
  by_cases h : x < 0
  . rw [zad h, cond_true, if_pos h]
  . rw [zab h, cond_false, if_neg h]
    by_cases h2 : (v.length : Int) <= x
    . rw [zaK h2, cond_true, List.getD_eq_getElem?_getD, List.getElem?_eq_none (by omega)]
      rfl
    . rw [zaC h2, cond_false, zaK (by omega), zad (by omega)]
      rfl
def zd8 (v pub : List Fr) (n : Nat) (t : Stp) : Fr :=
  cond (eqI t.kind 2) (gval [t.q0, t.q1, t.q2, t.q3, t.q4, Fr.zero, Fr.zero, Fr.zero] (valF v t.v0) (valF v t.v1) (valF v t.v2) Fr.zero)
    (cond (eqI t.kind 3) (fmul (valF v t.v0) (fsub (valF v t.v0) ⟨1, 0, 0, 0⟩))
      (cond (eqI t.kind 4) (fsub (frN (fv (valF v t.v0) ^ 5 % RR)) (valF v t.v2))
        (cond (eqI t.kind 5) (fsub (fadd (valF v t.v0) (valF v t.v1)) (valF v t.v2))
          (cond (eqI t.kind 6) (fsub (valF v t.v0) (valF v t.v1))
            (cond (eqI t.kind 7) (fsub (valF v t.v0) (pub.getD n Fr.zero)) Fr.zero)))))
def nxtP (n : Nat) (t : Stp) : Nat := cond (eqI t.kind 7) (n + 1) n
def za7 (v pub : List Fr) : Nat -> List Stp -> Bool
  | _, [] => true
  | n, t :: l => eqF (zd8 v pub n t) Fr.zero && za7 v pub (nxtP n t) l
def cntP : Nat -> List Stp -> Nat
  | n, [] => n
  | n, t :: l => cntP (nxtP n t) l
theorem zeD : ∀ (l m : List Stp) (n : Nat), cntP n (l ++ m) = cntP (cntP n l) m
  | [], _, _ => rfl
  | t :: l, m, n => zeD l m (nxtP n t)
theorem zcD (v pub : List Fr) : ∀ (l m : List Stp) (n : Nat), za7 v pub n (l ++ m) = (za7 v pub n l && za7 v pub (cntP n l) m)
  | [], m, n => by simp [za7, cntP]
  | t :: l, m, n => by
    simp only [List.cons_append, za7, cntP, zcD v pub l m, Bool.and_assoc]
theorem zxY (n : Nat) (t : Stp) : n <= nxtP n t := by
  unfold nxtP
  cases eqI t.kind 7 <;> simp
theorem zss : ∀ (l : List Stp) (n : Nat), n <= cntP n l
  | [], n => Nat.le_refl _
  | t :: l, n => Nat.le_trans (zxY n t) (zss l _)
theorem zkI {N : Nat} (hN : 2000 <= N) {st : List Stp} {v pub : List Fr} (hv : ∀ x ∈ v, Sc x) (hp : ∀ x ∈ pub, Sc x) (hst : ∀ t ∈ st, (1 <= t.kind /\ t.kind <= 7) /\ ScS t) (hl : st.length < 1000) (hpl : pub.length < 1000) : ∀ (k i n f : Nat), i + k = st.length -> k < f -> cntP n (st.drop i) <= pub.length ->
    zhd N f st pub v (n : Int) (i : Int) = some (za7 v pub n (st.drop i), ())
  | 0, i, n, f + 1, h1, h2, h3 => by
    rw [show i = st.length by omega, List.drop_length, zhe]
    unfold ziC
    rw [zab (by omega), cond_false]
    rfl
  | k + 1, i, n, f + 1, h1, h2, h3 => by
    have hi : i < st.length := by omega
    obtain ⟨t, ht⟩ : ∃ t, st.getD i (Stp.mk 0 0 0 0 Fr.zero Fr.zero Fr.zero Fr.zero Fr.zero) = t := ⟨_, rfl⟩
    have hd : st.drop i = t :: st.drop (i + 1) := by
      rw [List.drop_eq_getElem_cons hi, ← ht, List.getD_eq_getElem?_getD, List.getElem?_eq_getElem hi]; rfl
    have hm : t ∈ st := by
      rw [← ht, List.getD_eq_getElem?_getD, List.getElem?_eq_getElem hi]; exact List.getElem_mem hi
    obtain ⟨⟨k1, k2⟩, s0, s1, s2, s3, s4⟩ := hst t hm
    rw [hd] at h3
    simp only [cntP] at h3
    have ih := fun n' h => zkI hN hv hp hst hl hpl k (i + 1) n' f (by omega) (by omega) h
    have a := zc5 hv t.v0
    have b := zc5 hv t.v1
    have c := zc5 hv t.v2
    have fin : ∀ (x : Fr) (n' : Nat), n' = nxtP n t -> zd8 v pub n t = x -> cond (!eqF x (Fr.mk 0 0 0 0)) (some (false, ())) (zhd N f st pub v (n' : Int) ((i + 1 : Nat) : Int)) = some (za7 v pub n (t :: st.drop (i + 1)), ()) := fun x n' hn' hx => by
      subst hn'
      rw [ih _ h3, show za7 v pub n (t :: st.drop (i + 1)) = (eqF (zd8 v pub n t) Fr.zero && za7 v pub (nxtP n t) (st.drop (i + 1))) from rfl, hx, show (Fr.mk 0 0 0 0) = Fr.zero from rfl]
      cases eqF x Fr.zero <;> rfl
    rw [hd, zhe]
    unfold ziC
    rw [zad (by omega), cond_true, zaK (by omega : (0 : Int) <= (i : Int)), Bool.and_self, mst2, Int.toNat_natCast, ht, zmt, zmt, zmt, zax (by omega : i < 9223372036854775807)]
    simp only [bsm]
    have hk : t.kind = 1 \/ t.kind = 2 \/ t.kind = 3 \/ t.kind = 4 \/ t.kind = 5 \/ t.kind = 6 \/ t.kind = 7 := by omega
    rcases hk with e | e | e | e | e | e | e <;> rw [e]
    . exact fin Fr.zero n (by unfold nxtP; rw [e]; rfl) (by unfold zd8; rw [e]; rfl)
    . have hq := zxz (N := N) (by omega) (q := [t.q0, t.q1, t.q2, t.q3, t.q4, Fr.zero, Fr.zero, Fr.zero]) rfl a b c zay
      rw [show eqI (2 : Int) 2 = true from rfl, cond_true]
      simp only [zaf]
      rw [hq]
      simp only [bsm]
      exact fin _ n (by unfold nxtP; rw [e]; rfl) (by unfold zd8; rw [e]; rfl)
    . rw [show eqI (3 : Int) 2 = false from rfl, cond_false, show eqI (3 : Int) 3 = true from rfl, cond_true, subR (by omega) a zvv]
      simp only [bsm]
      rw [mulR (by omega) (zdM _ _)]
      simp only [bsm]
      exact fin _ n (by unfold nxtP; rw [e]; rfl) (by unfold zd8; rw [e]; rfl)
    . rw [show eqI (4 : Int) 2 = false from rfl, cond_false, show eqI (4 : Int) 3 = false from rfl, cond_false, show eqI (4 : Int) 4 = true from rfl, cond_true, zvs a (by simp; omega) (by simp)]
      simp only [bsm]
      rw [subR (by omega) (zix _) c]
      simp only [bsm]
      exact fin _ n (by unfold nxtP; rw [e]; rfl) (by unfold zd8; rw [e]; rfl)
    . rw [show eqI (5 : Int) 2 = false from rfl, cond_false, show eqI (5 : Int) 3 = false from rfl, cond_false, show eqI (5 : Int) 4 = false from rfl, cond_false, show eqI (5 : Int) 5 = true from rfl, cond_true, addR (by omega) a b]
      simp only [bsm]
      rw [subR (by omega) (zci _ _) c]
      simp only [bsm]
      exact fin _ n (by unfold nxtP; rw [e]; rfl) (by unfold zd8; rw [e]; rfl)
    . rw [show eqI (6 : Int) 2 = false from rfl, cond_false, show eqI (6 : Int) 3 = false from rfl, cond_false, show eqI (6 : Int) 4 = false from rfl, cond_false, show eqI (6 : Int) 5 = false from rfl, cond_false, show eqI (6 : Int) 6 = true from rfl, cond_true, subR (by omega) a b]
      simp only [bsm]
      exact fin _ n (by unfold nxtP; rw [e]; rfl) (by unfold zd8; rw [e]; rfl)
    . have hn : n < pub.length := by
        have := zss (st.drop (i + 1)) (nxtP n t)
        have e7 : nxtP n t = n + 1 := by unfold nxtP; rw [e]; rfl
        omega
      rw [show eqI (7 : Int) 2 = false from rfl, cond_false, show eqI (7 : Int) 3 = false from rfl, cond_false, show eqI (7 : Int) 4 = false from rfl, cond_false, show eqI (7 : Int) 5 = false from rfl, cond_false, show eqI (7 : Int) 6 = false from rfl, cond_false, show eqI (7 : Int) 7 = true from rfl, cond_true, ixk hn, mst2, Int.toNat_natCast, subR (by omega) a (zfa hp n)]
      simp only [bsm]
      rw [zax (by omega)]
      exact fin _ (n + 1) (by unfold nxtP; rw [e]; rfl) (by unfold zd8; rw [e]; rfl)
def gA (v : List Fr) (rows : List Row) (i : Nat) : Fr := gval (selL rows i) (ceV rows v i 0) (ceV rows v i 1) (ceV rows v i 2) (ceV rows v (i + 1) 0)
theorem zCR (v : List Fr) (rows : List Row) (i : Nat) : Sc (gA v rows i) := ze1 _ _ _ _ _
theorem zuP (l m : List Row) {i : Nat} (h : i < l.length) : (l ++ m).getD i zrow = l.getD i zrow := by
  rw [List.getD_eq_getElem?_getD, List.getD_eq_getElem?_getD, List.getElem?_append_left h]
theorem zst (l m : List Row) (i : Nat) : (l ++ m).getD (l.length + i) zrow = m.getD i zrow := by
  rw [List.getD_eq_getElem?_getD, List.getD_eq_getElem?_getD, List.getElem?_append_right (by omega), Nat.add_sub_cancel_left]
theorem zsu (l m : List Row) (v : List Fr) {i : Nat} (j : Nat) (h : i < l.length) : ceV (l ++ m) v i j = ceV l v i j := by
  unfold ceV
  rw [zuP l m h, List.length_append]
  by_cases h2 : 0 <= rw3 (l.getD i zrow) j
  . rw [if_pos ⟨by omega, h2⟩, if_pos ⟨h, h2⟩]
  . rw [if_neg (fun x => h2 x.2), if_neg (fun x => h2 x.2)]
theorem zuQ (l m : List Row) (v : List Fr) (i j : Nat) : ceV (l ++ m) v (l.length + i) j = ceV m v i j := by
  unfold ceV
  rw [zst, List.length_append]
  by_cases h : i < m.length /\ 0 <= rw3 (m.getD i zrow) j
  . rw [if_pos ⟨by omega, h.2⟩, if_pos h]
  . rw [if_neg (fun x => h ⟨by omega, x.2⟩), if_neg h]
theorem zvG (l m : List Row) {i : Nat} (h : i < l.length) : selL (l ++ m) i = selL l i := by
  unfold selL
  rw [zuP l m h, List.length_append, if_pos h, if_pos (by omega)]
theorem zA7 (l m : List Row) (i : Nat) : selL (l ++ m) (l.length + i) = selL m i := by
  unfold selL
  rw [zst, List.length_append]
  by_cases h : i < m.length
  . rw [if_pos h, if_pos (by omega)]
  . rw [if_neg h, if_neg (by omega)]
def zjx (l : List Row) : Prop := 0 < l.length -> (l.getD (l.length - 1) zrow).q7 = Fr.zero
theorem sel7 {l : List Row} {i : Nat} (h : i < l.length) : (selL l i).getD 7 Fr.zero = (l.getD i zrow).q7 := by
  unfold selL
  rw [if_pos h]
  rfl
theorem gA_l (l m : List Row) (v : List Fr) (hz : zjx l) {i : Nat} (h : i < l.length) : gA v (l ++ m) i = gA v l i := by
  unfold gA
  rw [zvG l m h, zsu l m v 0 h, zsu l m v 1 h, zsu l m v 2 h]
  by_cases h2 : i + 1 < l.length
  . rw [zsu l m v 0 h2]
  . refine zsl ?_ _ _ _ _ _
    have e : i = l.length - 1 := by omega
    rw [sel7 h, e]
    exact hz (by omega)
theorem gA_r (l m : List Row) (v : List Fr) (i : Nat) : gA v (l ++ m) (l.length + i) = gA v m i := by
  unfold gA
  rw [zA7, zuQ, zuQ, zuQ, Nat.add_assoc, zuQ]
def zbW (v : List Fr) (l : List Row) : Prop := ∀ i, i < l.length -> gA v l i = Fr.zero
theorem ziE (v : List Fr) {l m : List Row} (hz : zjx l) : zbW v (l ++ m) ↔ zbW v l /\ zbW v m := by
  constructor
  . intro h
    refine ⟨fun i hi => ?_, fun i hi => ?_⟩
    . rw [← gA_l l m v hz hi]; exact h i (by rw [List.length_append]; omega)
    . rw [← gA_r l m v i]; exact h _ (by rw [List.length_append]; omega)
  . rintro ⟨h1, h2⟩ i hi
    rw [List.length_append] at hi
    rcases Nat.lt_or_ge i l.length with h | h
    . rw [gA_l l m v hz h]; exact h1 i h
    . have e : i = l.length + (i - l.length) := by omega
      rw [e, gA_r]; exact h2 _ (by omega)
end
section
theorem ziF {x y : Fr} : eqF x y = true ↔ x = y := by
  unfold eqF
  exact decide_eq_true_iff
theorem zxZ (v : List Fr) (x : Int) : valF v (mxI x (-1)) = valF v x := by
  unfold valF mxI
  by_cases h : x < -1
  . rw [zad h, cond_true, if_pos (by omega), if_pos (by omega)]
  . rw [zab h, cond_false]
theorem zkJ {l : List Row} (v : List Fr) {i j : Nat} (h : i < l.length) : ceV l v i j = valF v (rw3 (l.getD i zrow) j) := by
  unfold ceV valF
  by_cases h2 : 0 <= rw3 (l.getD i zrow) j
  . rw [if_pos ⟨h, h2⟩, if_neg (by omega)]
  . rw [if_neg (fun x => h2 x.2), if_pos (by omega)]
theorem zsv (v : List Fr) (r : Row) : zbW v [r] ↔ ∃ z, gval [r.q0, r.q1, r.q2, r.q3, r.q4, r.q5, r.q6, r.q7] (valF v r.w0) (valF v r.w1) (valF v r.w2) z = Fr.zero /\ z = Fr.zero := by
  have e : gA v [r] 0 = gval [r.q0, r.q1, r.q2, r.q3, r.q4, r.q5, r.q6, r.q7] (valF v r.w0) (valF v r.w1) (valF v r.w2) Fr.zero := by
    unfold gA
    rw [zkJ v (by simp), zkJ v (by simp), zkJ v (by simp)]
    rfl
  constructor
  . intro h
    exact ⟨Fr.zero, by rw [← e]; exact h 0 (by simp), rfl⟩
  . rintro ⟨z, h, rfl⟩ i hi
    have : i = 0 := by simpa using hi
    subst this
    rw [e]; exact h
theorem zx0 {a : Fr} (ha : Sc a) : fmul a (fsub a ⟨1, 0, 0, 0⟩) = fsub (fmul a a) a := by
  refine zht (zju _ _) (zdM _ _) ?_
  have h1 : Cg (fv (fmul a (fsub a ⟨1, 0, 0, 0⟩))) (fv a * (fv a + (RR - 1))) := by
    refine (zgV _ _).trans (Cg.mul Cg.rfl' ?_)
    have := zks a ⟨1, 0, 0, 0⟩
    rwa [fv1] at this
  have h2 : Cg (fv (fsub (fmul a a) a)) (fv a * fv a + (RR - fv a)) := (zks _ _).trans ((zgV _ _).add Cg.rfl')
  refine h1.trans (Cg.trans ?_ h2.symm)
  have hlt : fv a < RR := ha
  rw [Nat.mul_add]
  refine Cg.add Cg.rfl' ?_
  unfold Cg
  cases hk : fv a with
  | zero =>
    rw [Nat.zero_mul, Nat.sub_zero, Nat.mod_self, Nat.zero_mod]
  | succ k =>
    rw [hk] at hlt
    have e : (k + 1) * (RR - 1) = RR - (k + 1) + RR * k := by
      have h3 : k * (RR - 1) = k * RR - k := by rw [Nat.mul_sub, Nat.mul_one]
      have h4 : k <= k * RR := Nat.le_mul_of_pos_right k (by omega)
      rw [Nat.add_mul, Nat.one_mul, h3, Nat.mul_comm RR k]
      omega
    rw [e, Nat.add_mul_mod_self_left]
theorem zA8 {a : Fr} : fmul (fmul (fmul a a) (fmul a a)) a = frN (fv a ^ 5 % RR) := by
  refine zht (zju _ _) (zix _) ?_
  have h1 : Cg (fv (fmul (fmul (fmul a a) (fmul a a)) a)) (fv a * fv a * (fv a * fv a) * fv a) :=
    (zgV _ _).trans (Cg.mul ((zgV _ _).trans (Cg.mul (zgV _ _) (zgV _ _))) Cg.rfl')
  refine h1.trans ?_
  rw [zda]
  refine Cg.trans ?_ (Cg.mod _).symm
  refine Cg.of_eq ?_
  rw [Nat.pow_succ, Nat.pow_succ, Nat.pow_succ, Nat.pow_succ, Nat.pow_one]
  simp only [Nat.mul_assoc]
theorem zns {V : Int} {v pub : List Fr} {n : Nat} {t : Stp} (hv : ∀ x ∈ v, Sc x) (ht : okS V t) (h7 : t.kind ≠ 7) : eqF (zd8 v pub n t) Fr.zero = true ↔ zbW v (zbz t) /\ (t.kind = 6 -> valF v t.v0 = valF v t.v1) := by
  obtain ⟨k, v0, v1, v2, q0, q1, q2, q3, q4⟩ := t
  obtain ⟨⟨k1, k2⟩, _⟩ := ht
  simp only at k1 k2 h7
  have hk : k = 1 \/ k = 2 \/ k = 3 \/ k = 4 \/ k = 5 \/ k = 6 := by omega
  have a := zc5 hv v0
  have b := zc5 hv v1
  have c := zc5 hv v2
  have nil : zbW v [] := fun i hi => absurd hi (by simp)
  rcases hk with rfl | rfl | rfl | rfl | rfl | rfl
  . exact ⟨fun _ => ⟨nil, fun h => absurd h (by show ¬ ((1 : Int) = 6); decide)⟩, fun _ => zjm _⟩
  . rw [ziF]
    show gval [q0, q1, q2, q3, q4, Fr.zero, Fr.zero, Fr.zero] (valF v v0) (valF v v1) (valF v v2) Fr.zero = Fr.zero ↔ zbW v [⟨q0, q1, q2, q3, q4, .zero, .zero, .zero, mxI v0 (-1), mxI v1 (-1), mxI v2 (-1)⟩] /\ ((2 : Int) = 6 -> _)
    rw [zsv]
    simp only [zxZ]
    constructor
    . intro h; exact ⟨⟨_, h, rfl⟩, fun h => absurd h (by decide)⟩
    . rintro ⟨⟨z, h, rfl⟩, _⟩; exact h
  . rw [ziF]
    show fmul (valF v v0) (fsub (valF v v0) ⟨1, 0, 0, 0⟩) = Fr.zero ↔ zbW v [⟨.zero, .zero, .zero, .zero, .zero, one1, .zero, .zero, v0, -1, -1⟩] /\ ((3 : Int) = 6 -> _)
    rw [zsv, zx0 a]
    simp only [one1, zA4]
    constructor
    . intro h; exact ⟨⟨_, h, rfl⟩, fun h => absurd h (by decide)⟩
    . rintro ⟨⟨z, h, rfl⟩, _⟩; exact h
  . rw [ziF]
    show fsub (frN (fv (valF v v0) ^ 5 % RR)) (valF v v2) = Fr.zero ↔ zbW v [⟨.zero, .zero, .zero, .zero, .zero, .zero, one1, .zero, v0, -1, v2⟩] /\ ((4 : Int) = 6 -> _)
    rw [zsv]
    simp only [one1, zA5, zA8]
    constructor
    . intro h; exact ⟨⟨_, h, rfl⟩, fun h => absurd h (by decide)⟩
    . rintro ⟨⟨z, h, rfl⟩, _⟩; exact h
  . rw [ziF]
    show fsub (fadd (valF v v0) (valF v v1)) (valF v v2) = Fr.zero ↔ zbW v [⟨.zero, .zero, .zero, .zero, .zero, .zero, .zero, one1, v0, v1, -1⟩, ⟨.zero, .zero, .zero, .zero, .zero, .zero, .zero, .zero, v2, -1, -1⟩] /\ ((5 : Int) = 6 -> _)
    have e0 : gA v [⟨.zero, .zero, .zero, .zero, .zero, .zero, .zero, one1, v0, v1, -1⟩, ⟨.zero, .zero, .zero, .zero, .zero, .zero, .zero, .zero, v2, -1, -1⟩] 0 = fsub (fadd (valF v v0) (valF v v1)) (valF v v2) := by
      unfold gA
      rw [zkJ v (by simp), zkJ v (by simp), zkJ v (by simp), zkJ v (by simp)]
      exact zA6
    have e1 : gA v [⟨.zero, .zero, .zero, .zero, .zero, .zero, .zero, one1, v0, v1, -1⟩, ⟨.zero, .zero, .zero, .zero, .zero, .zero, .zero, .zero, v2, -1, -1⟩] 1 = Fr.zero := zsk _ _ zkE 8 0
    constructor
    . intro h
      refine ⟨fun i hi => ?_, fun h => absurd h (by decide)⟩
      have : i = 0 \/ i = 1 := by simp at hi; omega
      rcases this with rfl | rfl
      . rw [e0]; exact h
      . exact e1
    . rintro ⟨h, _⟩
      rw [← e0]; exact h 0 (by simp)
  . rw [ziF]
    show fsub (valF v v0) (valF v v1) = Fr.zero ↔ zbW v [] /\ ((6 : Int) = 6 -> valF v v0 = valF v v1)
    rw [zdr a b]
    exact ⟨fun h => ⟨nil, fun _ => h⟩, fun h => h.2 rfl⟩
theorem zhk {l m : List Row} (hl : zjx l) (hm : zjx m) : zjx (l ++ m) := by
  intro h
  cases hmm : m with
  | nil =>
    subst hmm
    rw [List.append_nil] at h ⊢
    exact hl h
  | cons r k =>
    have hlen : 0 < m.length := by rw [hmm]; simp
    rw [← hmm]
    have e : (l ++ m).length - 1 = l.length + (m.length - 1) := by rw [List.length_append]; omega
    rw [e, zst]
    exact hm hlen
theorem ziG {V : Int} {t : Stp} (ht : okS V t) : zjx (zbz t) := by
  obtain ⟨k, v0, v1, v2, q0, q1, q2, q3, q4⟩ := t
  obtain ⟨⟨k1, k2⟩, _⟩ := ht
  simp only at k1 k2
  have hk : k = 1 \/ k = 2 \/ k = 3 \/ k = 4 \/ k = 5 \/ k = 6 \/ k = 7 := by omega
  rcases hk with rfl | rfl | rfl | rfl | rfl | rfl | rfl
  . intro h; exact absurd h (by show ¬ 0 < ([] : List Row).length; simp)
  . intro _; rfl
  . intro _; rfl
  . intro _; rfl
  . intro _; rfl
  . intro h; exact absurd h (by show ¬ 0 < ([] : List Row).length; simp)
  . intro _; rfl
structure BI (s : PlS) : Prop where
  lz : zjx s.rw
  cnt : cntP 0 s.st = s.pb.length
  sts : ∀ t ∈ s.st, (1 <= t.kind /\ t.kind <= 7) /\ ScS t
  eqv : ∀ v pub, (∀ x ∈ v, Sc x) -> (∀ x ∈ pub, Sc x) -> (za7 v pub 0 s.st = true ↔ (∀ p ∈ s.sm, valF v p.x = valF v p.y) /\ zbW v s.rw /\ ∀ i, i < s.pb.length -> valF v (s.pb.getD i zrow).w0 = pub.getD i Fr.zero)
theorem BI.two {s : PlS} (h : BI s) (n : Nat) (c : Fr) {V : Int} {t : Stp} (ht : okS V t) (h7 : t.kind ≠ 7) : BI (s.two n c t) := by
  have e7 : eqI t.kind 7 = false := za2 h7
  have hc : cntP 0 (s.st ++ [svar] ++ [t]) = cntP 0 s.st := by
    rw [zeD, zeD]
    simp only [cntP, nxtP, e7, cond_false]
    rfl
  refine ⟨zhk h.lz (ziG ht), hc.trans h.cnt, fun u hu => ?_, fun v pub hv hp => ?_⟩
  . simp only [PlS.two, List.mem_append, List.mem_singleton] at hu
    rcases hu with (hu | rfl) | rfl
    . exact h.sts u hu
    . exact ⟨(zg8 0).1, (zg8 0).2.1⟩
    . exact ⟨ht.1, ht.2.1⟩
  . have hh : za7 v pub 0 (s.two n c t).st = (za7 v pub 0 s.st && eqF (zd8 v pub (cntP 0 (s.st ++ [svar])) t) Fr.zero) := by
      show za7 v pub 0 (s.st ++ [svar] ++ [t]) = _
      rw [zcD, zcD]
      have e1 : za7 v pub (cntP 0 s.st) [svar] = true := by
        show (eqF (zd8 v pub _ svar) Fr.zero && true) = true
        rw [Bool.and_true]
        exact zjm _
      have e2 : za7 v pub (cntP 0 (s.st ++ [svar])) [t] = eqF (zd8 v pub (cntP 0 (s.st ++ [svar])) t) Fr.zero := Bool.and_true _
      rw [e1, e2, Bool.and_true]
    rw [hh, Bool.and_eq_true, h.eqv v pub hv hp, zns hv ht h7]
    show _ ↔ (∀ p ∈ cond (eqI t.kind 6) (s.sm ++ [⟨t.v0, t.v1⟩]) s.sm, _) /\ zbW v (s.rw ++ zbz t) /\ _
    rw [ziE v h.lz]
    have hs : (∀ p ∈ cond (eqI t.kind 6) (s.sm ++ [⟨t.v0, t.v1⟩]) s.sm, valF v p.x = valF v p.y) ↔ (∀ p ∈ s.sm, valF v p.x = valF v p.y) /\ (t.kind = 6 -> valF v t.v0 = valF v t.v1) := by
      by_cases h6 : t.kind = 6
      . rw [zaQ h6, cond_true]
        constructor
        . intro h; exact ⟨fun p hp => h p (List.mem_append_left _ hp), fun _ => h ⟨t.v0, t.v1⟩ (List.mem_append_right _ (List.mem_singleton.2 rfl))⟩
        . rintro ⟨h1, h2⟩ p hp
          rcases List.mem_append.1 hp with hp | hp
          . exact h1 p hp
          . rw [List.mem_singleton] at hp; subst hp; exact h2 h6
      . rw [za2 h6, cond_false]
        exact ⟨fun h => ⟨h, fun h' => absurd h' h6⟩, fun h => h.1⟩
    rw [hs]
    constructor
    . rintro ⟨⟨a, b, c⟩, d, e⟩; exact ⟨⟨a, e⟩, ⟨b, d⟩, c⟩
    . rintro ⟨⟨a, e⟩, ⟨b, d⟩, c⟩; exact ⟨⟨a, b, c⟩, d, e⟩
theorem Gate.bi {g : Nat} {s s' : PlS} (hg : Gate s s') (hi : PlI g s) (h : BI s) : BI s' := by
  have hlt : ∀ x, x < s.vs.length -> (x : Int) < ((s.vs.length + 1 : Nat) : Int) := fun x hx => by omega
  have hz : ((s.vs.length : Nat) : Int) < ((s.vs.length + 1 : Nat) : Int) := by omega
  cases hg with
  | mul n x y k hx hy hk => exact h.two n _ (zsd (hlt x hx) (hlt y hy) hz (zc3 (by omega))) (by show (2 : Int) ≠ 7; decide)
  | bool n k hk => exact h.two n _ (zmj hz) (by show (3 : Int) ≠ 7; decide)
  | pow n x hx => exact h.two n _ (zse (hlt x hx) hz) (by show (4 : Int) ≠ 7; decide)
  | next n x y hx hy => exact h.two n _ (zmk (hlt x hx) (hlt y hy) hz) (by show (5 : Int) ≠ 7; decide)
  | same n x hx => exact h.two n _ (zml (hlt x hx) hz) (by show (6 : Int) ≠ 7; decide)
  | skip n => exact ⟨h.lz, h.cnt, h.sts, h.eqv⟩
  | no n x hx =>
    have ht : okS ((s.vs.length + 1 : Nat) : Int) (tNo x) := zxO (hlt x hx)
    refine ⟨zhk h.lz (ziG ht), ?_, fun u hu => ?_, fun v pub hv hp => ?_⟩
    . show cntP 0 (s.st ++ [tNo x]) = _
      rw [zeD]; exact h.cnt
    . simp only [List.mem_append, List.mem_singleton] at hu
      rcases hu with hu | rfl
      . exact h.sts u hu
      . exact ⟨ht.1, ht.2.1⟩
    . show za7 v pub 0 (s.st ++ [tNo x]) = true ↔ (∀ p ∈ s.sm, _) /\ zbW v (s.rw ++ zbz (tNo x)) /\ _
      have e2 : za7 v pub (cntP 0 s.st) [tNo x] = eqF (zd8 v pub (cntP 0 s.st) (tNo x)) Fr.zero := Bool.and_true _
      rw [zcD, e2, Bool.and_eq_true, h.eqv v pub hv hp, zns hv ht (by show (2 : Int) ≠ 7; decide), ziE v h.lz]
      constructor
      . rintro ⟨⟨a, b, c⟩, d, e⟩; exact ⟨a, ⟨b, d⟩, c⟩
      . rintro ⟨a, ⟨b, d⟩, c⟩; exact ⟨⟨a, b, c⟩, d, fun h => absurd h (by show ¬ (2 : Int) = 6; decide)⟩
  | pub n x hx hp =>
    have ht : okS ((s.vs.length + 1 : Nat) : Int) (tPub x) := zsf (hlt x hx)
    refine ⟨h.lz, ?_, fun u hu => ?_, fun v pub hv hp => ?_⟩
    . show cntP 0 (s.st ++ [tPub x]) = (s.pb ++ [zca x]).length
      rw [zeD, h.cnt, List.length_append]; rfl
    . simp only [List.mem_append, List.mem_singleton] at hu
      rcases hu with hu | rfl
      . exact h.sts u hu
      . exact ⟨ht.1, ht.2.1⟩
    . show za7 v pub 0 (s.st ++ [tPub x]) = true ↔ (∀ p ∈ s.sm, _) /\ zbW v s.rw /\ ∀ i, i < (s.pb ++ [zca x]).length -> valF v ((s.pb ++ [zca x]).getD i zrow).w0 = pub.getD i Fr.zero
      have e2 : za7 v pub (cntP 0 s.st) [tPub x] = eqF (fsub (valF v x) (pub.getD s.pb.length Fr.zero)) Fr.zero := by rw [h.cnt]; exact Bool.and_true _
      rw [zcD, e2, Bool.and_eq_true, h.eqv v pub hv hp, ziF, zdr (zc5 hv _) (zfa hp _)]
      constructor
      . rintro ⟨⟨a, b, c⟩, d⟩
        refine ⟨a, b, fun i hi => ?_⟩
        rw [List.length_append] at hi
        rcases Nat.lt_or_ge i s.pb.length with h1 | h1
        . rw [zuP _ _ h1]; exact c i h1
        . have e : i = s.pb.length + 0 := by simp at hi; omega
          rw [e, zst]; exact d
      . rintro ⟨a, b, c⟩
        refine ⟨⟨a, b, fun i hi => ?_⟩, ?_⟩
        . have := c i (by rw [List.length_append]; omega)
          rwa [zuP _ _ hi] at this
        . have := c (s.pb.length + 0) (by rw [List.length_append]; simp)
          rw [zst] at this
          exact this
theorem zuR (n a b : Nat) : BI (ze8 n a b) := by
  refine ⟨fun h => absurd h (by simp [ze8]), rfl, fun t ht => ?_, fun v pub hv hp => ?_⟩
  . simp only [ze8, List.mem_cons, List.not_mem_nil, or_false, or_self] at ht
    subst ht
    exact ⟨(zg8 0).1, (zg8 0).2.1⟩
  . have e : za7 v pub 0 (ze8 n a b).st = true := by
      show (eqF Fr.zero Fr.zero && (eqF Fr.zero Fr.zero && true)) = true
      rw [zjm]; rfl
    rw [e]
    exact ⟨fun _ => ⟨fun p hp => (by cases hp), fun i hi => absurd hi (by simp [ze8]), fun i hi => absurd hi (by simp [ze8])⟩, fun _ => rfl⟩
end
section
theorem zA9 {a b c nx : Fr} (ha : Sc a) : gval [Fr.zero, ⟨1, 0, 0, 0⟩, Fr.zero, Fr.zero, Fr.zero, Fr.zero, Fr.zero, Fr.zero] a b c nx = a := by
  refine zht (ze1 _ _ _ _ _) ha ((zjw _ _ _ _ _ _ _ _ _ _ _ _).trans (Cg.of_eq ?_))
  rw [fvz, fv1]; simp
theorem zBa {a : Fr} (ha : Sc a) : fadd a Fr.zero = a := by
  refine zht (zci _ _) ha ((zrL _ _).trans (Cg.of_eq ?_))
  rw [fvz, Nat.add_zero]
theorem zuS {a p : Fr} : fadd a (fneg p) = fsub a p := by
  refine zht (zci _ _) (zdM _ _) ((zrL _ _).trans (Cg.trans ?_ (zks _ _).symm))
  refine Cg.add Cg.rfl' ?_
  unfold fneg
  rw [zda]
  exact Cg.mod _
theorem zuT {pb rw : List Row} {v pub : List Fr} {n : Nat} (hn : (pb ++ rw).length <= n) (hp : pub.length = pb.length) (hpb : ∀ r ∈ pb, ∃ x : Nat, r = zca x) (hz : zjx rw) (hv : ∀ x ∈ v, Sc x) (hps : ∀ x ∈ pub, Sc x) :
    (∀ m, m < n -> rowV (pb ++ rw) v pub n m = Fr.zero) ↔ zbW v rw /\ ∀ i, i < pb.length -> valF v (pb.getD i zrow).w0 = pub.getD i Fr.zero := by
  have hlz : zjx (pb ++ rw) := by
    refine zhk (fun h => ?_) hz
    obtain ⟨x, e⟩ := hpb _ (ziw (rows := pb) (i := pb.length - 1) (by omega))
    rw [e]; rfl
  have hrow : ∀ m, m < (pb ++ rw).length -> rowV (pb ++ rw) v pub n m = fadd (gA v (pb ++ rw) m) (ownV pub m) := fun m hm => by
    have key : gval (selL (pb ++ rw) m) (ceV (pb ++ rw) v m 0) (ceV (pb ++ rw) v m 1) (ceV (pb ++ rw) v m 2) (ceV (pb ++ rw) v ((m + 1) % n) 0) = gA v (pb ++ rw) m := by
      unfold gA
      by_cases h : m + 1 < n
      . rw [Nat.mod_eq_of_lt h]
      . refine zsl ?_ _ _ _ _ _
        have e : m = (pb ++ rw).length - 1 := by omega
        rw [sel7 hm, e]
        exact hlz (by omega)
    unfold rowV
    rw [key]
  have hl : (pb ++ rw).length = pb.length + rw.length := List.length_append
  have h1 : ∀ i, i < pb.length -> (rowV (pb ++ rw) v pub n i = Fr.zero ↔ valF v (pb.getD i zrow).w0 = pub.getD i Fr.zero) := fun i hi => by
    rw [hrow i (by omega)]
    obtain ⟨x, e⟩ := hpb _ (ziw (rows := pb) hi)
    have e2 : ownV pub i = fneg (pub.getD i Fr.zero) := by unfold ownV; rw [if_pos (by omega)]
    have e3 : gA v (pb ++ rw) i = valF v (pb.getD i zrow).w0 := by
      unfold gA
      rw [zsu _ _ _ _ hi, zkJ v hi, zvG _ _ hi]
      have e4 : selL pb i = [Fr.zero, ⟨1, 0, 0, 0⟩, Fr.zero, Fr.zero, Fr.zero, Fr.zero, Fr.zero, Fr.zero] := by
        unfold selL
        rw [if_pos hi, e]
        rfl
      rw [e4]
      exact zA9 (zc5 hv _)
    rw [e2, e3, zuS, zdr (zc5 hv _) (zfa hps _)]
  have h2 : ∀ i, i < rw.length -> (rowV (pb ++ rw) v pub n (pb.length + i) = Fr.zero ↔ gA v rw i = Fr.zero) := fun i hi => by
    rw [hrow _ (by omega), gA_r]
    have e2 : ownV pub (pb.length + i) = Fr.zero := by unfold ownV; rw [if_neg (by omega)]
    rw [e2, zBa (zCR _ _ _)]
  constructor
  . intro h
    exact ⟨fun i hi => (h2 i hi).1 (h _ (by omega)), fun i hi => (h1 i hi).1 (h _ (by omega))⟩
  . rintro ⟨a, b⟩ m hm
    rcases Nat.lt_or_ge m pb.length with h | h
    . exact (h1 m h).2 (b m h)
    . rcases Nat.lt_or_ge m (pb ++ rw).length with h' | h'
      . have e : m = pb.length + (m - pb.length) := by omega
        rw [e]
        exact (h2 _ (by omega)).2 (a _ (by omega))
      . exact zuI h' (by omega)
theorem zsw {g : Nat} {s : PlS} (hi : PlI g s) (hg : g <= 14) (hgd : GdI s) (hb : BI s) (hgc : GoodCirc (s.pb.length : Int) (s.vs.length : Int) (s.pb ++ s.rw) s.sm) {v pub : List Fr} (hvl : v.length = s.vs.length) (hv : ∀ x ∈ v, Sc x) (hpl : pub.length = s.pv.length) (hp : ∀ x ∈ pub, Sc x) :
    ∃ r b, q143 100000 (s.pb.length : Int) (s.vs.length : Int) (s.pb ++ s.rw) s.sm pub v = some r /\ q148 100000 s.st pub v = some (b, ()) /\ (eqI r.2.1 0 == b) = true := by
  have hpp := hi.pp
  have hst := hi.st
  have hp3 := hi.p
  obtain ⟨r, L, er, h1, h6, hr, hcase⟩ := zuH (N := 100000) (by omega) hgc hvl hv (by rw [hpl, hpp]) hp
  have hh : q148 100000 s.st pub v = some (za7 v pub 0 s.st, ()) := by
    have := zkI (N := 100000) (by omega) hv hp hb.sts (by omega) (by omega) s.st.length 0 0 100000 (by omega) (by omega) (by rw [List.drop_zero, hb.cnt]; omega)
    rw [List.drop_zero] at this
    exact this
  refine ⟨r, _, er, hh, ?_⟩
  have hiff : r.2.1 = 0 ↔ za7 v pub 0 s.st = true := by
    rw [hb.eqv v pub hv hp, ← zuT (n := 2 ^ L) hr (by omega) (fun r hr => by obtain ⟨x, _, e⟩ := hgd.pb r hr; exact ⟨x, e⟩) hb.lz hv hp]
    have hS := hgc.pairs (V := s.vs.length) rfl
    have hsm : (∀ p ∈ s.sm, valF v p.x = valF v p.y) ↔ ∀ p ∈ s.sm, v.getD p.x.toNat Fr.zero = v.getD p.y.toNat Fr.zero := by
      have e : ∀ p ∈ s.sm, valF v p.x = v.getD p.x.toNat Fr.zero /\ valF v p.y = v.getD p.y.toNat Fr.zero := fun p hp => by
        obtain ⟨⟨x0, _⟩, y0, _⟩ := hS p hp
        unfold valF
        rw [if_neg (by omega), if_neg (by omega)]
        exact ⟨rfl, rfl⟩
      exact ⟨fun h p hp => by rw [← (e p hp).1, ← (e p hp).2]; exact h p hp, fun h p hp => by rw [(e p hp).1, (e p hp).2]; exact h p hp⟩
    rw [hsm]
    rcases hcase with ⟨i, _, rfl, hno⟩ | ⟨hyes, ⟨j, hj, hnz, _, rfl⟩ | ⟨hall, rfl⟩⟩
    . exact ⟨fun h => absurd h (show ¬ (13 : Int) = 0 by decide), fun h => absurd h.1 hno⟩
    . exact ⟨fun h => absurd h (show ¬ (12 : Int) = 0 by decide), fun h => absurd (h.2 j hj) hnz⟩
    . exact ⟨fun _ => ⟨hyes, hall⟩, fun _ => rfl⟩
  by_cases h : r.2.1 = 0
  . rw [zaQ h, hiff.1 h]; rfl
  . rw [za2 h]
    cases hb2 : za7 v pub 0 s.st with
    | false => rfl
    | true => exact absurd (hiff.2 hb2) h
set_option maxHeartbeats 1000000 in
theorem zfE (l : List UInt8) (at1 : UInt8) (by2 : Fr) (which : UInt8) : q40 100000 l at1 by2 which = some (true, ()) := by
  unfold q40
  rw [zAZ]
  simp only [bsm]
  rw [Bool.not_true, cond_false]
  cases hlen : ltI 60 (l.length : Int)
  case true => rfl
  rw [cond_false, zvr (by omega)]
  simp only [bsm]
  by_cases hby : fv by2 < RR
  case neg => rw [decide_eq_false hby]; rfl
  rw [decide_eq_true hby, Bool.not_true, cond_false]
  obtain ⟨n, a, b, s, g, ha, hb, hg, hp, hi, hgd, hgc, e⟩ := zuv (N := 100000) (most := 10) (by omega) (by omega) l
  have hpv : PvI s := Plays.keep (P := PvI) (fun g s s' hi hg h => hg.pvI hi h) hp 0 (zeC ha hb) (fun x hx => by cases hx)
  have hbi : BI s := Plays.keep (P := BI) (fun g s s' hi hg h => hg.bi hi h) hp 0 (zeC ha hb) (zuR _ _ _)
  rw [show ((10 : Nat) : Int) = (10 : Int) from rfl] at e
  rw [e]
  simp only [bsm, PlS.res]
  have hv2 := hi.v2
  have hvv := hi.v
  have hp3 := hi.p
  have hk : at1.toNat % s.vs.length < s.vs.length := Nat.mod_lt _ (by omega)
  rw [zaG (by omega), mst2, za2 (by omega : ¬ (s.vs.length : Int) = 0), zne, Bool.not_false, mst2, ixk hk, zaG (by omega : (0 + s.pv.length) * 32 <= 140737488355328)]
  simp only [mst2, Int.toNat_natCast, zaf]
  generalize at1.toNat % s.vs.length = k at hk
  rw [show s.vs.getD k Fr.zero = s.val k from rfl, addR (by omega) (hi.val k) hby]
  simp only [bsm]
  have hvl : (setL s.vs k (fadd (s.val k) by2)).length = s.vs.length := zaN _ _ _
  have hvs : ∀ x ∈ setL s.vs k (fadd (s.val k) by2), Sc x := zsm hi.sc (zci _ _) k
  generalize setL s.vs k (fadd (s.val k) by2) = v at hvl hvs
  have key : ∀ v pub, v.length = s.vs.length -> (∀ x ∈ v, Sc x) -> pub.length = s.pv.length -> (∀ x ∈ pub, Sc x) ->
      (Option.bind (q143 100000 (s.pb.length : Int) (s.vs.length : Int) (s.pb ++ s.rw) s.sm pub v) fun rr => Option.bind (q148 100000 s.st pub v) fun rr2 => some ((eqI rr.2.1 0 == rr2.1), ())) = some (true, ()) := fun v pub h1 h2 h3 h4 => by
    obtain ⟨r, b, e1, e2, e3⟩ := zsw hi (by omega) hgd hbi hgc h1 h2 h3 h4
    rw [e1]
    simp only [bsm]
    rw [e2]
    simp only [bsm]
    rw [e3]
  have hpub : ltI 0 (s.pv.length : Int) = true -> q81 100000 (s.pv.getD 0 Fr.zero) by2 = some (fadd (s.pv.getD 0 Fr.zero) by2, ()) := fun _ => addR (by omega) (zfa hpv 0) hby
  have hpl2 : (setL s.pv 0 (fadd (s.pv.getD 0 Fr.zero) by2)).length = s.pv.length := zaN _ _ _
  have hps2 : ∀ x ∈ setL s.pv 0 (fadd (s.pv.getD 0 Fr.zero) by2), Sc x := zsm hpv (zci _ _) 0
  have inner : ∀ v, v.length = s.vs.length -> (∀ x ∈ v, Sc x) ->
      (cond (which % 3 == 2) (cond (ltI 0 (s.pv.length : Int)) (must (ltI 0 (s.pv.length : Int)) (Option.bind (q81 100000 (s.pv.getD 0 Fr.zero) by2) fun rr15 => must (ltI 0 (s.pv.length : Int)) (Option.bind (q143 100000 (s.pb.length : Int) (s.vs.length : Int) (s.pb ++ s.rw) s.sm (setL s.pv 0 rr15.1) v) fun rr => Option.bind (q148 100000 s.st (setL s.pv 0 rr15.1) v) fun rr2 => some ((eqI rr.2.1 0 == rr2.1), ()))))
        (Option.bind (q143 100000 (s.pb.length : Int) (s.vs.length : Int) (s.pb ++ s.rw) s.sm s.pv v) fun rr => Option.bind (q148 100000 s.st s.pv v) fun rr2 => some ((eqI rr.2.1 0 == rr2.1), ())))
        (Option.bind (q143 100000 (s.pb.length : Int) (s.vs.length : Int) (s.pb ++ s.rw) s.sm s.pv v) fun rr => Option.bind (q148 100000 s.st s.pv v) fun rr2 => some ((eqI rr.2.1 0 == rr2.1), ()))) = some (true, ()) := fun v h1 h2 => by
    cases (which % 3 == 2) with
    | false => rw [cond_false]; exact key v _ h1 h2 rfl hpv
    | true =>
      rw [cond_true]
      cases hl : ltI 0 (s.pv.length : Int) with
      | false => rw [cond_false]; exact key v _ h1 h2 rfl hpv
      | true =>
        rw [cond_true, mst2, hpub hl]
        simp only [bsm, mst2]
        exact key v _ h1 h2 hpl2 hps2
  cases ltN (UInt8.toNat 0) (UInt8.toNat (which % 3)) with
  | true => rw [cond_true]; exact inner v hvl hvs
  | false => rw [cond_false]; exact inner s.vs rfl hi.sc
end
end Go.Proofs.Ytgimohchocjgcaa.V
