import Derived.Test.YtgimohchocjgcaaVEV3
import Derived.KernelRfl
import Derived.Test.YtgimohchocjgcaaVME
import Derived.WalkKit
import Derived.ProofKit
import Derived.OpenShut
import Derived.Carry
import Derived.ChangeSlices
import Derived.Test.YtgimohchocjgcaaVRW
import Derived.Test.YtgimohchocjgcaaVTM
set_option linter.unusedVariables false
set_option linter.unusedSimpArgs false
namespace Go.Proofs.Ytgimohchocjgcaa.V
section
def selL (rows : List Row) (i : Nat) : List Fr := if i < rows.length then [(rows.getD i zrow).q0, (rows.getD i zrow).q1, (rows.getD i zrow).q2, (rows.getD i zrow).q3, (rows.getD i zrow).q4, (rows.getD i zrow).q5, (rows.getD i zrow).q6, (rows.getD i zrow).q7] else [Fr.zero, Fr.zero, Fr.zero, Fr.zero, Fr.zero, Fr.zero, Fr.zero, Fr.zero]
def rowV (rows : List Row) (v pub : List Fr) (n i : Nat) : Fr := fadd (gval (selL rows i) (ceV rows v i 0) (ceV rows v i 1) (ceV rows v i 2) (ceV rows v ((i + 1) % n) 0)) (ownV pub i)
def zwS (rows : List Row) : Prop := ∀ r ∈ rows, Sc r.q0 /\ Sc r.q1 /\ Sc r.q2 /\ Sc r.q3 /\ Sc r.q4 /\ Sc r.q5 /\ Sc r.q6 /\ Sc r.q7
theorem zcc {x : Fr} (h : bg x = false) : Sc x := by
  unfold bg at h
  unfold Sc
  simpa using h
theorem zzS {rows : List Row} (h : rows.any bigR = false) : zwS rows := fun r hr => by
  have h1 := List.any_eq_false.mp h r hr
  unfold bigR at h1
  simp only [Bool.or_eq_true, not_or, Bool.not_eq_true] at h1
  obtain ⟨⟨⟨⟨⟨⟨⟨a0, a1⟩, a2⟩, a3⟩, a4⟩, a5⟩, a6⟩, a7⟩ := h1
  exact ⟨zcc a0, zcc a1, zcc a2, zcc a3, zcc a4, zcc a5, zcc a6, zcc a7⟩
theorem ztU : ∀ i, Sc ([Fr.zero, Fr.zero, Fr.zero, Fr.zero, Fr.zero, Fr.zero, Fr.zero, Fr.zero].getD i Fr.zero) := by
  intro i
  match i with
  | 0 | 1 | 2 | 3 | 4 | 5 | 6 | 7 => exact zaz
  | i + 8 => exact zaz
theorem zwT {rows : List Row} (h : zwS rows) (i : Nat) : ∀ j, Sc ((selL rows i).getD j Fr.zero) := by
  intro j
  unfold selL
  split
  . rename_i hi
    obtain ⟨a0, a1, a2, a3, a4, a5, a6, a7⟩ := h _ (zmP hi)
    match j with
    | 0 => exact a0
    | 1 => exact a1
    | 2 => exact a2
    | 3 => exact a3
    | 4 => exact a4
    | 5 => exact a5
    | 6 => exact a6
    | 7 => exact a7
    | j + 8 => exact zaz
  . exact ztU j
theorem ztV (rows : List Row) (i : Nat) : (selL rows i).length = 8 := by unfold selL; split <;> rfl
theorem zwU {l : List Fr} (h : ∀ x ∈ l, Sc x) (i : Nat) : Sc (l.getD i Fr.zero) := by
  rcases Nat.lt_or_ge i l.length with h1 | h1
  . rw [List.getD_eq_getElem?_getD, List.getElem?_eq_getElem h1]; exact h _ (List.getElem_mem h1)
  . rw [List.getD_eq_getElem?_getD, List.getElem?_eq_none h1]; exact zaz
theorem zmT {rows : List Row} {v : List Fr} (h : ∀ x ∈ v, Sc x) (i j : Nat) : Sc (ceV rows v i j) := by
  unfold ceV
  split
  . exact zwU h _
  . exact zaz
theorem zwV (pub : List Fr) (i : Nat) : Sc (ownV pub i) := by
  unfold ownV
  split
  . exact zry _
  . exact zaz
section
variable {N n : Nat} (hN : 2000 <= N) {c0 v1 : Int} {rows : List Row} {S : List Pr} {v pub own o0 o1 o2 : List Fr} (hn : n <= 64) (h1 : 1 <= n) (hsel : zwS rows) (hv : ∀ x ∈ v, Sc x)
  (hi0 : zi5 rows v n 0 o0) (hi1 : zi5 rows v n 1 o1) (hi2 : zi5 rows v n 2 o2) (hol : own.length = n) (ho : ∀ i, i < n -> own.getD i Fr.zero = ownV pub i)
include hN hn h1 hsel hv hi0 hi1 hi2 hol ho
theorem ztW {A : Int -> Int -> Int -> (List Row) -> (List Pr) -> (List Fr) -> (List Fr) -> (List Fr) -> (List Fr) -> Option (Int × Int × Unit)} {i : Nat} (hi : i < n) :
    zcx N A (i : Int) c0 v1 rows S own o0 o1 o2 = cond (!eqF (rowV rows v pub n i) Fr.zero) (some ((i : Int), 12, ())) (cond (ltI ((i + 1 : Nat) : Int) (n : Int)) (A ((i + 1 : Nat) : Int) c0 v1 rows S own o0 o1 o2) (some (0, 0, ()))) := by
  have hm : (i + 1) % n < n := Nat.mod_lt _ (by omega)
  have e0 := hi0.2 i hi
  have e1 := hi1.2 i hi
  have e2 := hi2.2 i hi
  have e3 := hi0.2 _ hm
  have e4 := ho i hi
  have hsum : q80 N (gval (selL rows i) (ceV rows v i 0) (ceV rows v i 1) (ceV rows v i 2) (ceV rows v ((i + 1) % n) 0)) (ownV pub i) = some (rowV rows v pub n i, ()) := addF (by omega) (zwz _ _ _ _ _) (zwV _ _)
  have hval : q106 N (selL rows i) (ceV rows v i 0) (ceV rows v i 1) (ceV rows v i 2) (ceV rows v ((i + 1) % n) 0) = some (gval (selL rows i) (ceV rows v i 0) (ceV rows v i 1) (ceV rows v i 2) (ceV rows v ((i + 1) % n) 0), ()) :=
    zwx (by omega) (ztV _ _) (zwT hsel i) (zmT hv _ _) (zmT hv _ _) (zmT hv _ _) (zmT hv _ _)
  have b0 : (leI 0 (i : Int) && ltI (i : Int) (o0.length : Int)) = true := ixk (by rw [hi0.1]; exact hi)
  have b1 : (leI 0 (i : Int) && ltI (i : Int) (o1.length : Int)) = true := ixk (by rw [hi1.1]; exact hi)
  have b2 : (leI 0 (i : Int) && ltI (i : Int) (o2.length : Int)) = true := ixk (by rw [hi2.1]; exact hi)
  have b3 : (leI 0 (i : Int) && ltI (i : Int) (n : Int)) = true := ixk hi
  have b4 : (leI 0 (((i + 1) % n : Nat) : Int) && ltI (((i + 1) % n : Nat) : Int) (o0.length : Int)) = true := ixk (by rw [hi0.1]; exact hm)
  unfold zcx
  rw [zay (by omega), hol, zbh (by omega : ¬ (n : Int) = 0), zmI, b0, b1, b2, b3, b4]
  simp only [Bool.not_false, mst2, zag, Int.toNat_natCast, e0, e1, e2, e3, e4]
  by_cases hr : i < rows.length
  . rw [zad (by omega), cond_true, zaJ (by omega), Bool.and_self, mst2]
    have hs : selL rows i = [(rows.getD i zrow).q0, (rows.getD i zrow).q1, (rows.getD i zrow).q2, (rows.getD i zrow).q3, (rows.getD i zrow).q4, (rows.getD i zrow).q5, (rows.getD i zrow).q6, (rows.getD i zrow).q7] := by unfold selL; rw [if_pos hr]
    rw [← hs, hval]
    simp only [bsm]
    rw [hsum]
    simp only [bsm]
    rfl
  . rw [zab (by omega), cond_false]
    have hs : selL rows i = [Fr.zero, Fr.zero, Fr.zero, Fr.zero, Fr.zero, Fr.zero, Fr.zero, Fr.zero] := by unfold selL; rw [if_neg hr]
    rw [← hs, hval]
    simp only [bsm]
    rw [hsum]
    simp only [bsm]
    rfl
theorem zmU : ∀ (k i f : Nat), i + k + 1 = n -> k < f -> ∃ r, zcy N f (i : Int) c0 v1 rows S own o0 o1 o2 = some r /\
    ((∃ j, i <= j /\ j < n /\ rowV rows v pub n j ≠ Fr.zero /\ (∀ m, i <= m -> m < j -> rowV rows v pub n m = Fr.zero) /\ r = ((j : Int), 12, ())) \/ ((∀ m, i <= m -> m < n -> rowV rows v pub n m = Fr.zero) /\ r = (0, 0, ())))
  | k, i, f + 1, hk, hf => by
    rw [zhg, ztW hN hn h1 hsel hv hi0 hi1 hi2 hol ho (by omega)]
    by_cases hz : rowV rows v pub n i = Fr.zero
    . rw [zti hz, Bool.not_true, cond_false]
      cases k with
      | zero =>
        rw [zab (by omega), cond_false]
        refine ⟨_, rfl, .inr ⟨fun m h1 h2 => ?_, rfl⟩⟩
        rw [show m = i by omega]; exact hz
      | succ k =>
        rw [zad (by omega), cond_true]
        obtain ⟨r, e, h⟩ := zmU k (i + 1) f (by omega) (by omega)
        refine ⟨r, e, ?_⟩
        rcases h with ⟨j, a, b, c, d, e⟩ | ⟨a, b⟩
        . refine .inl ⟨j, by omega, b, c, fun m h1 h2 => ?_, e⟩
          by_cases hm : m = i
          . rw [hm]; exact hz
          . exact d m (by omega) h2
        . refine .inr ⟨fun m h1 h2 => ?_, b⟩
          by_cases hm : m = i
          . rw [hm]; exact hz
          . exact a m (by omega) h2
    . rw [zq7 hz, Bool.not_false, cond_true]
      exact ⟨_, rfl, .inl ⟨i, Nat.le_refl _, by omega, hz, fun m h1 h2 => absurd h1 (by omega), rfl⟩⟩
end
theorem zmV {N V : Nat} (hV : V <= 200) {c0 : Int} {rows : List Row} {S : List Pr} {v pub : List Fr} {cl : List Int} (hv : v.length = V) (hcl : cl.length = V) (hin : ∀ i, i < V -> ∃ c : Nat, c < V /\ cl.getD i 0 = (c : Int)) : ∀ (k t f : Nat), t + k = V -> k < f ->
    (∃ i, t <= i /\ i < V /\ v.getD i Fr.zero ≠ v.getD (cl.getD i 0).toNat Fr.zero /\ zc5 N f pub v (V : Int) (t : Int) c0 (V : Int) rows S cl = some ((i : Int), 13, ())) \/
    ((∀ i, t <= i -> i < V -> v.getD i Fr.zero = v.getD (cl.getD i 0).toNat Fr.zero) /\ zc5 N f pub v (V : Int) (t : Int) c0 (V : Int) rows S cl = zc5 N 1 pub v (V : Int) (V : Int) c0 (V : Int) rows S cl)
  | 0, t, f + 1, h1, h2 => by
    right
    refine ⟨fun i a b => absurd a (by omega), ?_⟩
    rw [show t = V by omega, zcY, zcY]
    unfold zg0
    rw [zab (by omega), cond_false, cond_false]
  | k + 1, t, f + 1, h1, h2 => by
    obtain ⟨c, hc, ec⟩ := hin t (by omega)
    have step : zc5 N (f + 1) pub v (V : Int) (t : Int) c0 (V : Int) rows S cl = cond (!decide (v.getD t Fr.zero = v.getD (cl.getD t 0).toNat Fr.zero)) (some ((t : Int), 13, ())) (zc5 N f pub v (V : Int) ((t + 1 : Nat) : Int) c0 (V : Int) rows S cl) := by
      rw [zcY]
      unfold zg0
      rw [zad (by omega), cond_true, hcl, hv, Int.toNat_natCast, ec, ixk (by omega : t < V), ixk hc, zjZ, zay (by omega), Int.toNat_natCast]
      simp only [mst2]
    by_cases he : v.getD t Fr.zero = v.getD (cl.getD t 0).toNat Fr.zero
    . rw [step, decide_eq_true he, Bool.not_true, cond_false]
      rcases zmV (N := N) (c0 := c0) (rows := rows) (S := S) (pub := pub) hV hv hcl hin k (t + 1) f (by omega) (by omega) with ⟨i, a, b, c, d⟩ | ⟨a, b⟩
      . exact .inl ⟨i, by omega, b, c, d⟩
      . refine .inr ⟨fun i h1 h2 => ?_, b⟩
        by_cases e : i = t
        . rw [e]; exact he
        . exact a i (by omega) h2
    . left
      exact ⟨t, Nat.le_refl _, by omega, he, by rw [step, decide_eq_false he, Bool.not_false, cond_true]⟩
theorem zmW {N V : Nat} (hN : 100000 <= N) {c0 : Int} {rows : List Row} {S : List Pr} {v pub : List Fr} (hg : GoodCirc c0 (V : Int) rows S) (hv : v.length = V) (hvs : ∀ x ∈ v, Sc x) (hp : (pub.length : Int) = c0) (hps : ∀ x ∈ pub, Sc x) :
    ∃ r L, q143 N c0 (V : Int) rows S pub v = some r /\ 1 <= L /\ L <= 6 /\ rows.length <= 2 ^ L /\
      ((∃ i : Nat, i < V /\ r = ((i : Int), 13, ()) /\ ¬ ∀ p ∈ S, v.getD p.x.toNat Fr.zero = v.getD p.y.toNat Fr.zero) \/
       ((∀ p ∈ S, v.getD p.x.toNat Fr.zero = v.getD p.y.toNat Fr.zero) /\
         ((∃ j, j < 2 ^ L /\ rowV rows v pub (2 ^ L) j ≠ Fr.zero /\ (∀ m, m < j -> rowV rows v pub (2 ^ L) m = Fr.zero) /\ r = ((j : Int), 12, ())) \/ ((∀ m, m < 2 ^ L -> rowV rows v pub (2 ^ L) m = Fr.zero) /\ r = (0, 0, ()))))) := by
  have hV := hg.v200
  have hS := hg.pairs (V := V) rfl
  have hm : q119 N c0 (V : Int) rows S = some (0, ()) := by
    rw [zrt (by omega) c0 (V : Int) rows S (by have := hg.rows; omega) (by have := hg.same; omega), hg.may]
  obtain ⟨cl, e4, _, gc, fc⟩ := znP (c0 := c0) (v2 := rows) hS (by have := hg.same; omega) (by omega) hN hm
  have hin : ∀ i, i < V -> ∃ c : Nat, c < V /\ cl.getD i 0 = (c : Int) := fun i hi => ⟨(cl.getD i 0).toNat, by have := gc.nn i hi; have := gc.le i hi; omega, by have := gc.nn i hi; omega⟩
  obtain ⟨L, h1, h6, hr, eL⟩ := zwR (N := N) (by omega) c0 (V : Int) S hg.rows
  have hle := zeS h6
  have hp2 := zgL L
  obtain ⟨o0, o1, o2, e5, i0, i1, i2⟩ := zwP (N := N) (by omega) hg h1 h6 hr hv
  obtain ⟨own, e6, l6, o6⟩ := zwQ (N := N) (by omega) h1 h6 (by have := hg.pub; omega) hps
  obtain ⟨r, e7, h7⟩ := zmU (N := N) (n := 2 ^ L) (c0 := c0) (v1 := (V : Int)) (S := S) (by omega) hle hp2 (zzS hg.big) hvs i0 i1 i2 l6 o6 (2 ^ L - 1) 0 N (by omega) (by omega)
  have hst : q143 N c0 (V : Int) rows S pub v = zc5 N N pub v (V : Int) 0 c0 (V : Int) rows S cl := by
    unfold q143
    rw [hm]
    simp only [bsm]
    rw [zaK rfl, Bool.not_true, cond_false, zaK hp, Bool.not_true, cond_false, zaK (by rw [hv]), Bool.not_true, cond_false, e4]
    simp only [bsm]
    rw [gc.len]
  have hlast : zc5 N 1 pub v (V : Int) (V : Int) c0 (V : Int) rows S cl = some r := by
    rw [show (1 : Nat) = 0 + 1 from rfl, zcY]
    unfold zg0
    rw [zab (by omega), cond_false, eL]
    simp only [bsm]
    rw [e5]
    simp only [bsm]
    rw [e6]
    simp only [bsm]
    exact e7
  rcases zmV (N := N) (c0 := c0) (rows := rows) (S := S) (pub := pub) (by omega) hv gc.len hin V 0 N (by omega) (by omega) with ⟨i, _, b, c, d⟩ | ⟨a, b⟩
  . refine ⟨_, L, hst.trans d, h1, h6, hr, .inl ⟨i, b, rfl, fun hall => c ?_⟩⟩
    have al := gc.al i b
    have : ∀ a b : Int, Alike2 S a b -> v.getD a.toNat Fr.zero = v.getD b.toNat Fr.zero := by
      intro a b h
      induction h with
      | refl => rfl
      | pair hp => exact hall _ hp
      | symm _ ih => exact ih.symm
      | trans _ _ h1 h2 => exact h1.trans h2
    exact this _ _ al
  . refine ⟨r, L, (hst.trans b).trans hlast, h1, h6, hr, .inr ⟨fun p hp => ?_, ?_⟩⟩
    . obtain ⟨⟨x0, x1⟩, y0, y1⟩ := hS p hp
      rw [a p.x.toNat (Nat.zero_le _) (by omega), a p.y.toNat (Nat.zero_le _) (by omega), fc p hp]
    . rcases h7 with ⟨j, _, b, c, d, e⟩ | ⟨c, d⟩
      . exact .inl ⟨j, b, c, fun m hm => d m (Nat.zero_le _) hm, e⟩
      . exact .inr ⟨fun m hm => c m (Nat.zero_le _) hm, d⟩
end
section
theorem zrF : fadd Fr.zero Fr.zero = Fr.zero := by decide +kernel
theorem zrG (w : Fr) : fmul Fr.zero w = Fr.zero := by
  unfold fmul
  rw [fvz, Nat.zero_mul]
  decide +kernel
theorem zuL (q t : List Fr) (h : ∀ i, q.getD i Fr.zero = Fr.zero) : ∀ k i, vsum q t k i Fr.zero = Fr.zero
  | 0, _ => rfl
  | k + 1, i => by
    unfold vsum
    rw [h i, zrG, zrF]
    exact zuL q t h k (i + 1)
theorem zrH : ∀ i, ([Fr.zero, Fr.zero, Fr.zero, Fr.zero, Fr.zero, Fr.zero, Fr.zero, Fr.zero] : List Fr).getD i Fr.zero = Fr.zero
  | 0 | 1 | 2 | 3 | 4 | 5 | 6 | 7 => rfl
  | _ + 8 => rfl
theorem zmX {rows : List Row} {v pub : List Fr} {n i : Nat} (h1 : rows.length <= i) (h2 : pub.length <= i) : rowV rows v pub n i = Fr.zero := by
  unfold rowV
  have e1 : selL rows i = [Fr.zero, Fr.zero, Fr.zero, Fr.zero, Fr.zero, Fr.zero, Fr.zero, Fr.zero] := by unfold selL; rw [if_neg (by omega)]
  have e2 : ownV pub i = Fr.zero := by unfold ownV; rw [if_neg (by omega)]
  rw [e1, e2]
  unfold gval
  rw [zuL _ _ zrH, zrF]
theorem zwW {q : List Fr} (h : q.getD 7 Fr.zero = Fr.zero) (a b c nx ny : Fr) : gval q a b c nx = gval q a b c ny := by
  unfold gval
  have key : ∀ (t t' : List Fr), (∀ j, j < 7 -> t.getD j Fr.zero = t'.getD j Fr.zero) -> ∀ (k i : Nat) (s : Fr), i + k = 8 -> vsum q t k i s = vsum q t' k i s := by
    intro t t' ht k
    induction k with
    | zero => intro i s _; rfl
    | succ k ih =>
      intro i s hi
      unfold vsum
      have e : fmul (q.getD i Fr.zero) (t.getD i Fr.zero) = fmul (q.getD i Fr.zero) (t'.getD i Fr.zero) := by
        by_cases h7 : i = 7
        . rw [h7, h, zrG, zrG]
        . rw [ht i (by omega)]
      rw [e]
      exact ih (i + 1) _ (by omega)
  refine key _ _ (fun j hj => ?_) 8 0 _ rfl
  match j, hj with
  | 0, _ | 1, _ | 2, _ | 3, _ | 4, _ | 5, _ | 6, _ => rfl
theorem zi6 (rows : List Row) {i j : Nat} (h : j < i) : (rows.take i).getD j zrow = rows.getD j zrow := by
  rw [List.getD_eq_getElem?_getD, List.getD_eq_getElem?_getD, List.getElem?_take_of_lt h]
theorem zfE {rows : List Row} {v : List Fr} {i j c : Nat} (h : j < i) (hi : i <= rows.length) : ceV (rows.take i) v j c = ceV rows v j c := by
  unfold ceV
  rw [zi6 _ h, List.length_take, Nat.min_eq_left hi]
  by_cases h2 : 0 <= rw3 (rows.getD j zrow) c
  . rw [if_pos ⟨h, h2⟩, if_pos ⟨by omega, h2⟩]
  . rw [if_neg (fun x => h2 x.2), if_neg (fun x => h2 x.2)]
theorem zrI {rows : List Row} {i j : Nat} (h : j < i) (hi : i <= rows.length) : selL (rows.take i) j = selL rows j := by
  unfold selL
  rw [zi6 _ h, List.length_take, Nat.min_eq_left hi, if_pos h, if_pos (by omega)]
theorem zrJ {rows : List Row} {v pub : List Fr} {n m i j : Nat} (hi : i <= rows.length) (hn : i <= n) (hm : i <= m) (hp : pub.length <= i) (h7 : 0 < i -> (rows.getD (i - 1) zrow).q7 = Fr.zero) (hz : ∀ j, j < i -> rowV rows v pub n j = Fr.zero) : rowV (rows.take i) v pub m j = Fr.zero := by
  rcases Nat.lt_or_ge j i with h | h
  . rw [← hz j h]
    unfold rowV
    rw [zrI h hi, zfE h hi, zfE h hi, zfE h hi]
    congr 1
    by_cases h2 : j + 1 < i
    . rw [Nat.mod_eq_of_lt (by omega : j + 1 < m), Nat.mod_eq_of_lt (by omega : j + 1 < n), zfE h2 hi]
    . refine zwW ?_ _ _ _ _ _
      have e : i - 1 = j := by omega
      have := h7 (by omega)
      rw [e] at this
      unfold selL
      rw [if_pos (by omega)]
      exact this
  . exact zmX (by rw [List.length_take]; omega) (by omega)
theorem zij {P : Int} : ∀ (k : Nat) {l : List Row} {i : Nat}, zdx P i l = false -> zdx P i (l.take k) = false
  | 0, _, _, _ => rfl
  | k + 1, [], _, _ => rfl
  | k + 1, r :: l, i, h => by
    unfold zdx at h
    simp only [Bool.or_eq_false_iff] at h
    rw [List.take_succ_cons]
    unfold zdx
    rw [zij k h.2]
    simp only [Bool.or_eq_false_iff, and_true]
    exact h.1
theorem GoodCirc.take {c0 v1 : Int} {rows : List Row} {S : List Pr} (h : GoodCirc c0 v1 rows S) {i : Nat} (hi : c0 <= (i : Int)) : GoodCirc c0 v1 (rows.take i) S := by
  refine ⟨h.p0, h.p8, h.v0, h.v200, ?_, h.same, ?_, ?_, ?_, h.unkp, zij i h.form⟩
  . have := h.rows; rw [List.length_take]; omega
  . have := h.pub; rw [List.length_take]; omega
  . exact List.any_eq_false.2 fun r hr => List.any_eq_false.1 h.big r (List.mem_of_mem_take hr)
  . exact List.any_eq_false.2 fun r hr => List.any_eq_false.1 h.unk r (List.mem_of_mem_take hr)
def PvI (s : PlS) : Prop := ∀ x ∈ s.pv, Sc x
theorem Gate.pvI {g : Nat} {s s' : PlS} (hg : Gate s s') (hi : PlI g s) (h : PvI s) : PvI s' := by
  cases hg with
  | pub n x hx hp =>
    intro y hy
    simp only [List.mem_append, List.mem_singleton] at hy
    rcases hy with hy | rfl
    . exact h y hy
    . exact hi.val x
  | _ => exact h
def zev (v : List Fr) : List Pr -> Bool
  | [] => false
  | p :: l => !decide (v.getD p.x.toNat Fr.zero = v.getD p.y.toNat Fr.zero) || zev v l
theorem zdl {v : List Fr} : ∀ {S : List Pr}, zev v S = false ↔ ∀ p ∈ S, v.getD p.x.toNat Fr.zero = v.getD p.y.toNat Fr.zero
  | [] => by simp [zev]
  | p :: l => by
    unfold zev
    simp only [Bool.or_eq_false_iff, Bool.not_eq_false', decide_eq_true_iff, zdl (S := l), List.mem_cons, forall_eq_or_imp]
theorem zkc {N V : Nat} {c0 v1 : Int} {rows : List Row} {S : List Pr} {v pub vals : List Fr} {st : List Stp} (hS : zby S V) (hv : v.length = V) (hl : S.length <= 1000) : ∀ (k i f : Nat) (b : Bool), i + k = S.length -> k < f ->
    zg2 N f b (i : Int) c0 v1 v rows S pub vals st = zg2 N 1 (b || zev v (S.drop i)) (S.length : Int) c0 v1 v rows S pub vals st
  | 0, i, f + 1, b, h1, h2 => by
    rw [show i = S.length by omega, List.drop_length, show (1 : Nat) = 0 + 1 from rfl, zcZ, zcZ]
    unfold zg1
    rw [zab (by omega), cond_false, cond_false, zev, Bool.or_false]
  | k + 1, i, f + 1, b, h1, h2 => by
    have hi : i < S.length := by omega
    have hd : S.drop i = S.getD i ⟨0, 0⟩ :: S.drop (i + 1) := by
      rw [List.drop_eq_getElem_cons hi, List.getD_eq_getElem?_getD, List.getElem?_eq_getElem hi]; rfl
    have hm : S.getD i ⟨0, 0⟩ ∈ S := by
      rw [List.getD_eq_getElem?_getD, List.getElem?_eq_getElem hi]; exact List.getElem_mem hi
    obtain ⟨⟨x0, x1⟩, y0, y1⟩ := hS _ hm
    have ih := fun b => zkc (N := N) (c0 := c0) (v1 := v1) (rows := rows) (pub := pub) (vals := vals) (st := st) hS hv hl k (i + 1) f b (by omega) (by omega)
    rw [hd, zcZ]
    unfold zg1 zev
    rw [zad (by omega), cond_true, zay (by omega)]
    cases b with
    | true => rw [cond_true, ih, Bool.true_or, Bool.true_or]
    | false =>
      rw [cond_false, zaJ (by omega : (0 : Int) <= (i : Int)), Bool.and_self, mst2, Int.toNat_natCast, zaJ x0, zaJ y0, zad (by rw [hv]; exact x1), zad (by rw [hv]; exact y1), Bool.and_self, mst2, mst2, mst2, zjZ, ih, Bool.false_or]
theorem zwX {l : List Fr} (h : ∀ x ∈ l, Sc x) {a : Fr} (ha : Sc a) (i : Nat) : ∀ x ∈ setL l i a, Sc x := by
  induction l generalizing i with
  | nil => intro x hx; cases hx
  | cons y l ih =>
    cases i with
    | zero =>
      intro x hx
      simp only [setL, List.mem_cons] at hx
      rcases hx with rfl | hx
      . exact ha
      . exact h x (List.mem_cons_of_mem _ hx)
    | succ i =>
      intro x hx
      simp only [setL, List.mem_cons] at hx
      rcases hx with rfl | hx
      . exact h _ List.mem_cons_self
      . exact ih (fun z hz => h z (List.mem_cons_of_mem _ hz)) i x hx
theorem zzT : q142 100000 = some (true, ()) := by kernel_rfl
theorem zzU {a b : Nat} (h : a <= b) : mnI (a : Int) (b : Int) = (a : Int) := by
  unfold mnI
  rw [zab (by omega), cond_false]
set_option maxHeartbeats 1000000 in
theorem zft (l : List UInt8) (at1 : UInt8) (by2 : Fr) : q41 100000 l at1 by2 = some (true, ()) := by
  unfold q41
  rw [zzT]
  simp only [bsm]
  rw [Bool.not_true, cond_false]
  cases hlen : ltI 60 (l.length : Int)
  case true => rfl
  rw [cond_false, zux (by omega)]
  simp only [bsm]
  by_cases hby : fv by2 < RR
  case neg => rw [decide_eq_false hby]; rfl
  rw [decide_eq_true hby, Bool.not_true, cond_false]
  cases hz : eqF by2 (Fr.mk 0 0 0 0)
  case true => rfl
  obtain ⟨n, a, b, s, g, ha, hb, hg, hp, hi, hgd, hgc, e⟩ := ztJ (N := 100000) (most := 10) (by omega) (by omega) l
  have hpv : PvI s := Plays.keep (P := PvI) (fun g s s' hi hg h => hg.pvI hi h) hp 0 (zgX ha hb) (fun x hx => by cases hx)
  rw [cond_false, show ((10 : Nat) : Int) = (10 : Int) from rfl] at *
  rw [e]
  simp only [bsm, PlS.res]
  have hv2 := hi.v2
  have hvv := hi.v
  have hpp := hi.pp
  have hS := hgc.pairs (V := s.vs.length) rfl
  have hk : at1.toNat % s.vs.length < s.vs.length := Nat.mod_lt _ (by omega)
  rw [zaG (by omega), mst2, zbh (by omega : ¬ (s.vs.length : Int) = 0), zmI, Bool.not_false, mst2, ixk hk, mst2, Int.toNat_natCast]
  generalize at1.toNat % s.vs.length = k at hk
  simp only [zag]
  rw [show s.vs.getD k Fr.zero = s.val k from rfl, addR (by omega) (hi.val k) hby]
  simp only [bsm]
  have hvl : (setL s.vs k (fadd (s.val k) by2)).length = s.vs.length := zaP _ _ _
  have hvs : ∀ x ∈ setL s.vs k (fadd (s.val k) by2), Sc x := zwX hi.sc (zeY _ _) k
  generalize setL s.vs k (fadd (s.val k) by2) = v at hvl hvs
  have hc0 : (s.pv.length : Int) = (s.pb.length : Int) := by rw [hpp]
  generalize hc : (s.pb.length : Int) = c0 at *
  generalize hV : s.vs.length = V at *
  generalize hrw : s.pb ++ s.rw = rows at *
  rw [mst2]
  refine (zkc (N := 100000) (c0 := c0) (v1 := (V : Int)) (rows := rows) (pub := s.pv) (vals := s.vs) (st := s.st) hS hvl (by have := hgc.same; omega) s.sm.length 0 100000 false (by omega) (by have := hgc.same; omega)).trans ?_
  rw [List.drop_zero, Bool.false_or, show (1 : Nat) = 0 + 1 from rfl, zcZ]
  unfold zg1
  rw [zab (by omega), cond_false]
  obtain ⟨r, L, er, h1, h6, hr, hcase⟩ := zmW (N := 100000) (by omega) hgc hvl hvs hc0 hpv
  rw [er]
  simp only [bsm]
  rcases hcase with ⟨i, hi1, rfl, hno⟩ | ⟨hyes, hcase⟩
  . have hb : zev v s.sm = true := by
      cases h : zev v s.sm with
      | true => rfl
      | false => exact absurd (zdl.1 h) hno
    rw [hb, cond_true, zaK rfl, cond_true, zaw, cond_true, zad (by omega)]
  . rw [zdl.2 hyes, cond_false]
    rcases hcase with ⟨j, hj, hnz, hzs, rfl⟩ | ⟨_, rfl⟩
    . rw [zaK rfl, cond_true]
      by_cases hjc : (j : Int) < c0
      . rw [zad hjc, cond_true]
      . rw [zab hjc, cond_false]
        have hjr : j < rows.length := by
          rcases Nat.lt_or_ge j rows.length with h | h
          . exact h
          . exact absurd (zmX h (by omega)) hnz
        have hgt := hgc.take (i := j) (by omega)
        have hlt : (rows.take j).length = j := by rw [List.length_take]; omega
        have hrows := hgc.rows
        obtain ⟨r2, L2, er2, g1, g6, gr, gcase⟩ := zmW (N := 100000) (by omega) hgt hvl hvs hc0 hpv
        have fin : (0 < j -> (rows.getD (j - 1) zrow).q7 = Fr.zero) -> r2.2.1 = 0 := fun h7 => by
          rcases gcase with ⟨_, _, _, hno⟩ | ⟨_, ⟨m, hm, hmz, _⟩ | ⟨_, rfl⟩⟩
          . exact absurd hyes hno
          . exact absurd (zrJ (n := 2 ^ L) (by omega) (by omega) (by omega) (by omega) h7 hzs) hmz
          . rfl
        rw [zzU (by omega), zaw, zaJ (by omega), Bool.and_self, mst2, show ((j : Int) - 0).toNat = j by omega, hlt, zaG (by omega), mst2, er2]
        simp only [bsm]
        by_cases hj0 : 0 < j
        . have ej : wr ((j : Int) - 1) = ((j - 1 : Nat) : Int) := by rw [zeo (by omega) (by omega)]; omega
          rw [zad (by omega), cond_true, ej, ixk (by omega : j - 1 < j), mst2, Int.toNat_natCast, zi6 _ (by omega : j - 1 < j)]
          have el := zjZ (rows.getD (j - 1) zrow).q7 Fr.zero
          refine (congrArg (fun b => cond (!b) (some (true, ())) (some (eqI r2.2.1 0, ()))) el).trans ?_
          by_cases h7 : (rows.getD (j - 1) zrow).q7 = Fr.zero
          . rw [decide_eq_true h7, Bool.not_true, cond_false, zaK (fin fun _ => h7)]
          . rw [decide_eq_false h7, Bool.not_false, cond_true]
        . rw [zab (by omega), cond_false, zaK (fin fun h => absurd h hj0)]
    . rw [zbh (by decide), cond_false, zaK rfl]
end
section
open Go.ChangeShapes Go.WideShapes Go.ChangeAt Go.RowKit
def zrK (P : Program) (k : K) (t : TypeId) : Prop :=
  ∀ (H : Type) (enc : TypeId × Value -> H) (W : World) (base : Nat) (v : Value) (d : DataW H) (p : List MemPlace), Value.okWide P W .any base t v -> DataW.Trod enc P W 0 (fun _ => true) true t v d p ->
    ∃ x : k.T, zhr W (fun b => b < W.heap.size) (k.enc x) v
theorem zg3 {P : Program} {H : Type} {enc : TypeId × Value -> H} {W : World} {base : Nat} {sp : Nat -> Bool} {hd : Bool} : ∀ {ts : List TypeId} {vs : List Value} {ds : List (DataW H)} {p : List MemPlace}, DataW.TrodAll enc P W base sp hd ts vs ds p -> ds.length = ts.length
  | [], [], [], _, _ => rfl
  | _ :: _, _ :: _, _ :: _, _, ⟨_, _, _, h, _⟩ => by simp [zg3 h]
  | [], _ :: _, _, _, h => by cases h
  | [], [], _ :: _, _, h => by cases h
  | _ :: _, [], _, _, h => by cases h
  | _ :: _, _ :: _, [], _, h => by cases h
theorem zzV {k : IntKind} {n : Int} {P : Program} {W : World} {t : TypeId} {v : Value} {base : Nat} {H : Type} {enc : TypeId × Value -> H} {d : DataW H} {p : List MemPlace} (ht : P.underlying t = some (.int k)) (hv : Value.okWide P W .any base t v) (h : DataW.Trod enc P W 0 (fun _ => true) true t v d p) :
    ∃ n, v = .int k n /\ (Lit.int k n).wf = true := by
  obtain ⟨n, h1, _, _, h4⟩ := open_int ht hv h
  exact ⟨n, h1, h4⟩
theorem ztX {P : Program} {t : TypeId} (ht : P.underlying t = some (.int .u8)) : zrK P K.u8 t := fun H enc W base v d p hv h => by
  obtain ⟨n, rfl, hw⟩ := zzV (n := 0) ht hv h
  have := bounds_u8 hw
  refine ⟨UInt8.ofNat n.toNat, .sc ?_⟩
  simp only [C.val, Option.some.injEq, Value.int.injEq, true_and]
  rw [UInt8.toNat_ofNat']
  omega
structure NumEl where
  e : El
  k : IntKind
  of : Int -> e.T
  one : e.size = 1
  val : ∀ n, (Lit.int k n).wf = true -> ∃ c, e.toC (of n) = [c] /\ c.val = some (.int k n)
def zBB : NumEl := ⟨.u8, .u8, fun n => UInt8.ofNat n.toNat, rfl, fun n hw => ⟨_, rfl, by
  have := bounds_u8 hw
  simp only [C.val, Option.some.injEq, Value.int.injEq, true_and]
  rw [UInt8.toNat_ofNat']
  omega⟩⟩
theorem zkd (m : NumEl) (zs : List Int) (hw : ∀ n ∈ zs, (Lit.int m.k n).wf = true) (j : Nat) (c : C) (h : (flat m.e (zs.map m.of))[j]? = some c) : j < zs.length /\ c.val = some (.int m.k (zs.getD j 0)) := by
  induction zs generalizing j with
  | nil => simp [flat] at h
  | cons z zs ih =>
    obtain ⟨c0, h1, h2⟩ := m.val z (hw z (by simp))
    simp only [List.map_cons, flat, h1] at h
    cases j with
    | zero =>
      simp at h
      subst h
      exact ⟨by simp, by simpa using h2⟩
    | succ j =>
      simp at h
      obtain ⟨h3, h4⟩ := ih (fun n hn => hw n (by simp [hn])) j h
      exact ⟨by simpa using h3, by simpa using h4⟩
theorem zlW {P : Program} {t e : TypeId} (m : NumEl) (ht : P.underlying t = some (.slice e)) (he : P.underlying e = some (.int m.k)) (hc : P.cellsOf e = 1) : zrK P (K.ro m.e) t := fun H enc W base v d p hv h => by
  obtain ⟨ad, n, c, rfl⟩ := okWide_slice ht hv
  obtain ⟨fuel, hf⟩ := h
  rcases open_ints ht he hc hf with ⟨hcs, _⟩ | ⟨a, len, cap, zs, hcs, _, h1, h2, h3, _, h5, h6⟩
  . simp [Value.cells] at hcs
    obtain ⟨rfl, rfl, rfl⟩ := hcs
    exact ⟨[], .emp⟩
  . simp [Value.cells] at hcs
    obtain ⟨rfl, rfl, rfl⟩ := hcs
    simp only [if_true] at h3
    cases hn : n with
    | zero => exact ⟨[], .emp⟩
    | succ n' =>
      have hlen : ((zs.take n).map m.of).length = n := by simp; omega
      have h0 := h5 0 (by omega)
      have hspot : a.spot = none /\ a.block < W.heap.size := by
        have e0 : a.add 0 = a := by simp [Addr.add]
        rw [e0] at h0
        unfold World.cell? at h0
        split at h0
        . rename_i cs _ _ hb
          refine ⟨?_, (Array.getElem?_eq_some_iff.1 hb).1⟩
          cases hs : a.spot with
          | none => rfl
          | some q => rw [hs] at h0; simp at h0
        . cases h0
      obtain ⟨b, off, spot⟩ := a
      obtain ⟨hs, hb⟩ := hspot
      simp only at hs hb
      subst hs
      have hw : ∀ z ∈ zs.take n, (Lit.int m.k z).wf = true := fun z hz => h6 z (List.mem_of_mem_take hz)
      refine ⟨(zs.take n).map m.of, ?_⟩
      have := Holds.ro (w := W) (ok := fun b => b < W.heap.size) (e := m.e) (l := (zs.take n).map m.of) (b := b) (off := off) (cap := c) (fun j => .int m.k (zs.getD j 0)) (by rw [hlen]; exact h1) h2 hb (fun j c' hj => ?_) (fun j c' hj => ?_)
      . rw [hlen] at this
        rw [← hn]
        exact this
      . obtain ⟨q1, q2⟩ := zkd m _ hw j c' hj
        have := h5 j (by rw [List.length_take] at q1; omega)
        rw [zaR] at this
        exact this
      . obtain ⟨q1, q2⟩ := zkd m _ hw j c' hj
        rw [List.length_take] at q1
        refine .sc ?_
        rw [q2]
        congr 2
        simp only [List.getD_eq_getElem?_getD, List.getElem?_take]
        rw [if_pos (by omega)]
theorem ztY {P : Program} (hlaid : laidOutB P = true) {H : Type} {enc : TypeId × Value -> H} {fn : Func} {s : ChangeSpec} {apart fresh : Bool} {W W' : World} {args : Array Value} {ds gs : List (DataW H)} {before : List MemPlace} {tb : TypeId}
    (hread : ∀ t ∈ fn.params.toList, P.readableRec t = true /\ t < P.types.size) (hvars : s.vars = []) (hres : fn.resultTypes = #[tb]) (htb : P.underlying tb = some .bool)
    (hspec : s.fn H (ds ++ []) = { results := [.lit (.bool true)], args := ds })
    (hW : DataW.Whole enc P fn.params.toList s.vars apart W args.toList ds gs before) (hk : Kept W W') : s.post enc P fn apart fresh false false W args (.bool true) W' := by
  have hW' := hW
  obtain ⟨p, q, hA, hV, rfl, hz, hn⟩ := hW'
  rw [hvars] at hV
  obtain ⟨rfl, rfl⟩ := trodVars_none hV
  have hlt : ∀ x ∈ p, x.block < W.heap.size := fun x hx => hW.lt x (by simp [hx])
  have hbelow : Below W.heap.size W W' := ⟨hk.os, hk.tape, hk.output, hk.size, hk.block⟩
  have hargs : ∀ {ts : List TypeId} {vs : List Value} {ds : List (DataW H)} {p : List MemPlace}, (∀ t ∈ ts, P.readableRec t = true /\ t < P.types.size) -> DataW.TrodAll enc P W 0 (fun _ => true) true ts vs ds p -> (∀ x ∈ p, x.block < W.heap.size) ->
      DataW.TrodAll enc P W' 0 (fun b => decide (b < W.heap.size)) true ts vs ds p := by
    intro ts
    induction ts with
    | nil => intro vs ds p _ h _; cases vs <;> cases ds <;> first | exact h | exact h.elim
    | cons t ts ih =>
      intro vs ds p hr h hl
      cases vs with
      | nil => cases ds <;> exact h.elim
      | cons v vs => cases ds with
        | nil => exact h.elim
        | cons d ds =>
          obtain ⟨p1, q1, h1, h2, rfl⟩ := h
          exact ⟨p1, q1, Below.trod hlaid (hr t (by simp)).1 (hr t (by simp)).2 h1 hbelow (fun x hx => hl x (by simp [hx])), ih (fun t ht => hr t (by simp [ht])) h2 (fun x hx => hl x (by simp [hx])), rfl⟩
  have hkeep : W.keptBut W' (fun _ => False) := by
    refine ⟨hk.os, hk.output, fun i hi => ?_⟩
    rw [hk.block i hi]
    cases hb : W.heap[i]? with
    | none => trivial
    | some o => cases o <;> simp
  refine ⟨ds, [], p ++ [], [], p, [], hW, ?_, ?_, ?_, World.keptBut_mono (fun _ h => h.elim) hkeep, fun h => by cases h⟩
  . rw [hspec, hres]
    refine ⟨[], [], ⟨1, ?_⟩, rfl, rfl⟩
    simp [DataW.trod, htb, Value.cells, Value.resultList]
  . rw [hspec]
    exact hargs hread hA hlt
  . rw [hspec, hvars]
    rfl
end
section
open Go.ChangeShapes Go.WideShapes Go.ChangeAt Go.RowKit
theorem own : ownKnob Try.prog.godebug = none := by kernel_rfl
theorem laid : laidOutB Try.pinned.checked.prog = true := by kernel_rfl
theorem zBC : mapsRowed Try.pinned.checked.prog = true := by kernel_rfl
theorem zBD : Try.pinned.checked.prog.stopsHeard = true := by kernel_rfl
theorem znT : Try.pinned.checked.prog.mayEnter = true := zn0
theorem zwY : zrK Try.prog (K.ro .u8) 24 := zlW zBB Try.underlying24 Try.underlying5 (by kernel_rfl)
theorem zzW : zrK Try.prog K.u8 5 := ztX Try.underlying5
end
section
open Go.ChangeShapes Go.WideShapes Go.ChangeAt Go.RowKit
deriving instance DecidableEq for CS
def elCS : El -> List CS
  | .u64 => [.u64]
  | .u32 => [.u32]
  | .u8 => [.u8]
  | .int => [.int]
  | .bool => [.bool]
  | .fr => [.u64, .u64, .u64, .u64]
  | .row => [.u64, .u64, .u64, .u64, .u64, .u64, .u64, .u64, .u64, .u64, .u64, .u64, .u64, .u64, .u64, .u64, .u64, .u64, .u64, .u64, .u64, .u64, .u64, .u64, .u64, .u64, .u64, .u64, .u64, .u64, .u64, .u64, .int, .int, .int]
  | .pair => [.int, .int]
  | .step => [.int, .int, .int, .int, .u64, .u64, .u64, .u64, .u64, .u64, .u64, .u64, .u64, .u64, .u64, .u64, .u64, .u64, .u64, .u64, .u64, .u64, .u64, .u64]
theorem ztZ (e : El) : (elCS e).length = e.size := by cases e <;> rfl
theorem zt0 : ∀ (e : El) (y : TCs (elCS e)), ∃ x : e.T, e.toC x = zb9 (elCS e) y
  | .u64, y => ⟨y.1, rfl⟩
  | .u32, y => ⟨y.1, rfl⟩
  | .u8, y => ⟨y.1, rfl⟩
  | .int, y => ⟨y.1, rfl⟩
  | .bool, y => ⟨y.1, rfl⟩
  | .fr, y => ⟨(⟨y.1, y.2.1, y.2.2.1, y.2.2.2.1⟩ : Fr), rfl⟩
  | .row, y => ⟨(⟨⟨y.1, y.2.1, y.2.2.1, y.2.2.2.1⟩, ⟨y.2.2.2.2.1, y.2.2.2.2.2.1, y.2.2.2.2.2.2.1, y.2.2.2.2.2.2.2.1⟩, ⟨y.2.2.2.2.2.2.2.2.1, y.2.2.2.2.2.2.2.2.2.1, y.2.2.2.2.2.2.2.2.2.2.1, y.2.2.2.2.2.2.2.2.2.2.2.1⟩, ⟨y.2.2.2.2.2.2.2.2.2.2.2.2.1, y.2.2.2.2.2.2.2.2.2.2.2.2.2.1, y.2.2.2.2.2.2.2.2.2.2.2.2.2.2.1, y.2.2.2.2.2.2.2.2.2.2.2.2.2.2.2.1⟩, ⟨y.2.2.2.2.2.2.2.2.2.2.2.2.2.2.2.2.1, y.2.2.2.2.2.2.2.2.2.2.2.2.2.2.2.2.2.1, y.2.2.2.2.2.2.2.2.2.2.2.2.2.2.2.2.2.2.1, y.2.2.2.2.2.2.2.2.2.2.2.2.2.2.2.2.2.2.2.1⟩, ⟨y.2.2.2.2.2.2.2.2.2.2.2.2.2.2.2.2.2.2.2.2.1, y.2.2.2.2.2.2.2.2.2.2.2.2.2.2.2.2.2.2.2.2.2.1, y.2.2.2.2.2.2.2.2.2.2.2.2.2.2.2.2.2.2.2.2.2.2.1, y.2.2.2.2.2.2.2.2.2.2.2.2.2.2.2.2.2.2.2.2.2.2.2.1⟩, ⟨y.2.2.2.2.2.2.2.2.2.2.2.2.2.2.2.2.2.2.2.2.2.2.2.2.1, y.2.2.2.2.2.2.2.2.2.2.2.2.2.2.2.2.2.2.2.2.2.2.2.2.2.1, y.2.2.2.2.2.2.2.2.2.2.2.2.2.2.2.2.2.2.2.2.2.2.2.2.2.2.1, y.2.2.2.2.2.2.2.2.2.2.2.2.2.2.2.2.2.2.2.2.2.2.2.2.2.2.2.1⟩, ⟨y.2.2.2.2.2.2.2.2.2.2.2.2.2.2.2.2.2.2.2.2.2.2.2.2.2.2.2.2.1, y.2.2.2.2.2.2.2.2.2.2.2.2.2.2.2.2.2.2.2.2.2.2.2.2.2.2.2.2.2.1, y.2.2.2.2.2.2.2.2.2.2.2.2.2.2.2.2.2.2.2.2.2.2.2.2.2.2.2.2.2.2.1, y.2.2.2.2.2.2.2.2.2.2.2.2.2.2.2.2.2.2.2.2.2.2.2.2.2.2.2.2.2.2.2.1⟩, y.2.2.2.2.2.2.2.2.2.2.2.2.2.2.2.2.2.2.2.2.2.2.2.2.2.2.2.2.2.2.2.2.1, y.2.2.2.2.2.2.2.2.2.2.2.2.2.2.2.2.2.2.2.2.2.2.2.2.2.2.2.2.2.2.2.2.2.1, y.2.2.2.2.2.2.2.2.2.2.2.2.2.2.2.2.2.2.2.2.2.2.2.2.2.2.2.2.2.2.2.2.2.2.1⟩ : Row), rfl⟩
  | .pair, y => ⟨(⟨y.1, y.2.1⟩ : Pr), rfl⟩
  | .step, y => ⟨(⟨y.1, y.2.1, y.2.2.1, y.2.2.2.1, ⟨y.2.2.2.2.1, y.2.2.2.2.2.1, y.2.2.2.2.2.2.1, y.2.2.2.2.2.2.2.1⟩, ⟨y.2.2.2.2.2.2.2.2.1, y.2.2.2.2.2.2.2.2.2.1, y.2.2.2.2.2.2.2.2.2.2.1, y.2.2.2.2.2.2.2.2.2.2.2.1⟩, ⟨y.2.2.2.2.2.2.2.2.2.2.2.2.1, y.2.2.2.2.2.2.2.2.2.2.2.2.2.1, y.2.2.2.2.2.2.2.2.2.2.2.2.2.2.1, y.2.2.2.2.2.2.2.2.2.2.2.2.2.2.2.1⟩, ⟨y.2.2.2.2.2.2.2.2.2.2.2.2.2.2.2.2.1, y.2.2.2.2.2.2.2.2.2.2.2.2.2.2.2.2.2.1, y.2.2.2.2.2.2.2.2.2.2.2.2.2.2.2.2.2.2.1, y.2.2.2.2.2.2.2.2.2.2.2.2.2.2.2.2.2.2.2.1⟩, ⟨y.2.2.2.2.2.2.2.2.2.2.2.2.2.2.2.2.2.2.2.2.1, y.2.2.2.2.2.2.2.2.2.2.2.2.2.2.2.2.2.2.2.2.2.1, y.2.2.2.2.2.2.2.2.2.2.2.2.2.2.2.2.2.2.2.2.2.2.1, y.2.2.2.2.2.2.2.2.2.2.2.2.2.2.2.2.2.2.2.2.2.2.2.1⟩⟩ : Stp), rfl⟩
theorem zg4 : ∀ (l m : List CS) (y : TCs l) (z : TCs m), ∃ w : TCs (l ++ m), zb9 (l ++ m) w = zb9 l y ++ zb9 m z
  | [], m, _, z => ⟨z, rfl⟩
  | c :: l, m, y, z => by
    obtain ⟨w, hw⟩ := zg4 l m y.2 z
    exact ⟨(y.1, w), by simp only [List.cons_append, zb9]; rw [hw]⟩
def zlX (l : List CS) : Nat -> List CS
  | 0 => []
  | n + 1 => l ++ zlX l n
def zrL (g : TypeId -> Option (List CS)) (sz : TypeId -> Nat) : List Field -> Nat -> Option (List CS)
  | [], _ => some []
  | f :: fs, off => match g f.type with
    | some l => cond (Nat.beq f.offset off && Nat.beq (sz f.type) l.length) (match zrL g sz fs (off + l.length) with | some m => some (l ++ m) | none => none) none
    | none => none
def shp (P : Program) (els : List (Nat × El)) : Nat -> TypeId -> Option (List CS)
  | 0, _ => none
  | k + 1, t => match P.underlying t with
    | some .bool => some [.bool]
    | some (.int .u64) => some [.u64]
    | some (.int .u32) => some [.u32]
    | some (.int .u8) => some [.u8]
    | some (.int .i64) => some [.int]
    | some .string => some [.str]
    | some (.slice e) => match look e els, shp P els k e with
      | some el, some l => cond (decide (l = elCS el) && Nat.beq (P.cellsOf e) l.length) (some [.ro el]) none
      | _, _ => none
    | some (.struct fs) => match zrL (shp P els k) P.cellsOf fs.toList 0 with
      | some l => cond (Nat.beq (P.cellsOf t) l.length) (some l) none
      | none => none
    | some (.array n e) => match shp P els k e with
      | some l => cond (Nat.beq (P.cellsOf e) l.length && Nat.beq (P.cellsOf t) (n * l.length)) (some (zlX l n)) none
      | none => none
    | _ => none
theorem zik {w : World} {ok : Nat -> Prop} : ∀ {l : List C} {vs : List Value}, zbA w ok l vs -> ∀ (j : Nat) (c : C), l[j]? = some c -> ∃ v, vs[j]? = some v /\ Holds w ok c v
  | [], [], _, j, c, h => by simp at h
  | a :: l, v :: vs, h, 0, c, hc => by simp at hc; subst hc; exact ⟨v, rfl, h.1⟩
  | a :: l, v :: vs, h, j + 1, c, hc => by
    obtain ⟨x, h1, h2⟩ := zik h.2 j c (by simpa using hc)
    exact ⟨x, by simpa using h1, h2⟩
  | [], _ :: _, h, _, _, _ => h.elim
  | _ :: _, [], h, _, _, _ => h.elim
theorem ze0 {w : World} {ok : Nat -> Prop} : ∀ {l m : List C} {vs ws : List Value}, zbA w ok l vs -> zbA w ok m ws -> zbA w ok (l ++ m) (vs ++ ws)
  | [], m, [], ws, _, h => h
  | c :: l, m, v :: vs, ws, h, g => ⟨h.1, ze0 h.2 g⟩
  | [], _, _ :: _, _, h, _ => h.elim
  | _ :: _, _, [], _, h, _ => h.elim
theorem zmY {α : Type} (cs : List α) (off a b : Nat) : (cs.drop off).take (a + b) = (cs.drop off).take a ++ (cs.drop (off + a)).take b := by
  rw [List.take_add, List.drop_drop]
section
variable {P : Program} {els : List (Nat × El)} {W : World} {H : Type} {enc : TypeId × Value -> H}
abbrev Okb (W : World) : Nat -> Prop := fun b => b < W.heap.size
def zrM (P : Program) (W : World) {H : Type} (enc : TypeId × Value -> H) (t : TypeId) (l : List CS) : Prop :=
  ∀ (fuel : Nat) (cs : List Value) (x : DataW H × List MemPlace), DataW.trod enc P W 0 (fun _ => true) true fuel t cs = some x -> ∃ y : TCs l, zbA W (Okb W) (zb9 l y) cs
theorem zfp {g : TypeId -> Option (List CS)} (hg : ∀ t l, g t = some l -> zrM P W enc t l) {m : Nat} {cs : List Value} : ∀ (fs : List Field) (off : Nat) (l : List CS), zrL g P.cellsOf fs off = some l ->
    (∀ f ∈ fs, ∃ x, DataW.trod enc P W 0 (fun _ => true) true m f.type ((cs.drop f.offset).take (P.cellsOf f.type)) = some x) -> ∃ y : TCs l, zbA W (Okb W) (zb9 l y) ((cs.drop off).take l.length)
  | [], off, l, h, _ => by
    simp only [zrL, Option.some.injEq] at h
    subst h
    exact ⟨(), trivial⟩
  | f :: fs, off, l, h, hx => by
    simp only [zrL] at h
    split at h
    . rename_i l1 h1
      obtain ⟨hc, h⟩ := zaa h
      simp only [Bool.and_eq_true] at hc
      have e1 := Nat.beq_true hc.1
      have e2 := Nat.beq_true hc.2
      split at h
      . rename_i l2 h2
        cases h
        obtain ⟨x, hx1⟩ := hx f (by simp)
        obtain ⟨y, hy⟩ := hg _ _ h1 _ _ _ hx1
        obtain ⟨z, hz⟩ := zfp hg fs _ _ h2 (fun f hf => hx f (by simp [hf]))
        obtain ⟨w, hw⟩ := zg4 l1 l2 y z
        refine ⟨w, ?_⟩
        rw [hw, List.length_append, zmY]
        rw [e1, e2] at hy
        exact ze0 hy hz
      . cases h
    . cases h
theorem zg5 {e : TypeId} {l : List CS} (hg : zrM P W enc e l) {m sz : Nat} (hs : sz = l.length) {cs : List Value} : ∀ (n i : Nat),
    (∀ j, j < n -> ∃ x, DataW.trod enc P W 0 (fun _ => true) true m e ((cs.drop ((i + j) * sz)).take sz) = some x) -> ∃ y : TCs (zlX l n), zbA W (Okb W) (zb9 (zlX l n) y) ((cs.drop (i * sz)).take (n * sz))
  | 0, i, _ => ⟨(), by rw [Nat.zero_mul, List.take_zero]; trivial⟩
  | n + 1, i, h => by
    obtain ⟨x, hx⟩ := h 0 (by omega)
    obtain ⟨y, hy⟩ := hg _ _ _ hx
    obtain ⟨z, hz⟩ := zg5 hg hs n (i + 1) (fun j hj => by
      obtain ⟨x, hx⟩ := h (j + 1) (by omega)
      exact ⟨x, by rw [show i + 1 + j = i + (j + 1) by omega]; exact hx⟩)
    obtain ⟨w, hw⟩ := zg4 l (zlX l n) y z
    refine ⟨w, ?_⟩
    rw [show zb9 (zlX l (n + 1)) w = zb9 l y ++ zb9 (zlX l n) z from hw, show (n + 1) * sz = sz + n * sz by rw [Nat.succ_mul, Nat.add_comm], zmY]
    rw [Nat.add_zero] at hy
    refine ze0 hy ?_
    rw [show i * sz + sz = (i + 1) * sz by rw [Nat.succ_mul]]
    exact hz
theorem zuM {a : Addr} (hs : a.spot = none) (i : Nat) : a.add i = ⟨a.block, a.off + i, none⟩ := by
  obtain ⟨b, off, spot⟩ := a
  simp only at hs
  subst hs
  unfold Addr.add
  split
  . rename_i h; subst h; rfl
  . rfl
theorem zrN {a : Addr} {v : Value} (h : W.cell? a = some v) : a.spot = none /\ a.block < W.heap.size := by
  unfold World.cell? at h
  split at h
  . rename_i cs _ _ hb
    refine ⟨?_, (Array.getElem?_eq_some_iff.1 hb).1⟩
    cases hs : a.spot with
    | none => rfl
    | some q => rw [hs] at h; simp at h
  . cases h
theorem znU (e : El) (l : List e.T) (j : Nat) (c : C) (h : (flat e l)[j]? = some c) : ∃ i k x, j = i * e.size + k /\ k < e.size /\ l[i]? = some x /\ (e.toC x)[k]? = some c := by
  induction l generalizing j with
  | nil => simp [flat] at h
  | cons x l ih =>
    simp only [flat] at h
    have hl := zaT e x
    by_cases hj : j < e.size
    . rw [List.getElem?_append_left (by omega)] at h
      exact ⟨0, j, x, by simp, hj, rfl, h⟩
    . rw [List.getElem?_append_right (by omega), hl] at h
      obtain ⟨i, k, y, h1, h2, h3, h4⟩ := ih _ h
      exact ⟨i + 1, k, y, by rw [Nat.succ_mul]; omega, h2, by simpa using h3, h4⟩
theorem zlY {t e : TypeId} {el : El} (ht : P.underlying t = some (.slice e)) (hc : P.cellsOf e = el.size) (hg : zrM P W enc e (elCS el)) : zrM P W enc t [.ro el] := by
  intro fuel cs x h
  rcases DataW.trod_slice ht h with ⟨rfl, _⟩ | ⟨a, len, cap, elems, rest, n, _, rfl, _, hb, hl, hm, hlen, hel, _, _⟩
  . exact ⟨(([] : List el.T), ()), .emp, trivial⟩
  . cases hn : len with
    | zero => exact ⟨(([] : List el.T), ()), .emp, trivial⟩
    | succ len' =>
      have hpos := zaL el
      have each : ∀ i, i < len -> ∃ (vs : List Value) (x : el.T), vs.length = el.size /\ (∀ k, k < el.size -> W.cell? ((a.add (i * el.size)).add k) = vs[k]?) /\ zbA W (Okb W) (el.toC x) vs := by
        intro i hi
        have h1 := hel i hi
        rw [hc] at h1
        obtain ⟨y, hy⟩ : ∃ y, elems[i]? = some y := ⟨_, List.getElem?_eq_getElem (by omega)⟩
        rw [hy, Option.bind_eq_some_iff] at h1
        obtain ⟨vs, h2, h3⟩ := h1
        obtain ⟨_, h4, h5⟩ := World.cells?_some h2
        obtain ⟨z, hz⟩ := hg _ _ _ h3
        obtain ⟨q, hq⟩ := zt0 el z
        exact ⟨vs, q, h4, h5, by rw [hq]; exact hz⟩
      have hspot : a.spot = none /\ a.block < W.heap.size := by
        obtain ⟨vs, q, h1, h2, _⟩ := each 0 (by omega)
        obtain ⟨v, hv⟩ : ∃ v, vs[0]? = some v := ⟨_, List.getElem?_eq_getElem (by omega)⟩
        have h3 := h2 0 hpos
        rw [hv] at h3
        exact zrN (a := a) (by simpa [Addr.add] using h3)
      obtain ⟨b, off, spot⟩ := a
      obtain ⟨hs, hbk⟩ := hspot
      simp only at hs hbk
      subst hs
      have each' : ∀ i, i < len -> ∃ (x : el.T) (vs : List Value), vs.length = el.size /\ (∀ k, k < el.size -> W.cell? ⟨b, off + i * el.size + k, none⟩ = vs[k]?) /\ zbA W (Okb W) (el.toC x) vs := by
        intro i hi
        obtain ⟨vs, q, h1, h2, h3⟩ := each i hi
        refine ⟨q, vs, h1, fun k hk => ?_, h3⟩
        have h4 := h2 k hk
        rw [zuM (a := ⟨b, off, none⟩) rfl, zuM rfl] at h4
        exact h4
      have hx : ∃ f : Nat -> el.T, ∀ i, i < len -> ∃ vs : List Value, vs.length = el.size /\ (∀ k, k < el.size -> W.cell? ⟨b, off + i * el.size + k, none⟩ = vs[k]?) /\ zbA W (Okb W) (el.toC (f i)) vs := by
        refine ⟨fun i => if h : i < len then Classical.choose (each' i h) else el.zero, fun i hi => ?_⟩
        simp only [dif_pos hi]
        exact Classical.choose_spec (each' i hi)
      obtain ⟨f, hf⟩ := hx
      have hlen2 : ((List.range len).map f).length = len := by simp
      have key : ∀ (j : Nat) (c : C), (flat el ((List.range len).map f))[j]? = some c -> ∃ v, W.cell? ⟨b, off + j, none⟩ = some v /\ Holds W (Okb W) c v := by
        intro j c hj
        obtain ⟨i, k, y, h1, h2, h3, h4⟩ := znU el _ j c hj
        have hi : i < len := by have := (List.getElem?_eq_some_iff.1 h3).1; simpa using this
        have hy : y = f i := by
          rw [List.getElem?_map, List.getElem?_range hi] at h3
          simpa using h3.symm
        obtain ⟨vs, g1, g2, g3⟩ := hf i hi
        obtain ⟨v, g4, g5⟩ := zik g3 k c (by rw [← hy]; exact h4)
        refine ⟨v, ?_, g5⟩
        rw [h1, ← Nat.add_assoc, g2 k h2, g4]
      refine ⟨((List.range len).map f, ()), ?_, trivial⟩
      have := Holds.ro (w := W) (ok := Okb W) (e := el) (l := (List.range len).map f) (b := b) (off := off) (cap := cap) (fun j => (W.cell? ⟨b, off + j, none⟩).getD undef) (by rw [hlen2]; exact hl) hm hbk (fun j c hj => ?_) (fun j c hj => ?_)
      . rw [hlen2] at this
        rw [← hn]
        exact this
      . obtain ⟨v, h1, _⟩ := key j c hj
        simp only [h1, Option.getD_some]
      . obtain ⟨v, h1, h2⟩ := key j c hj
        simp only [h1, Option.getD_some]
        exact h2
theorem zmZ (els : List (Nat × El)) : ∀ (k : Nat) (t : TypeId) (l : List CS), shp P els k t = some l -> zrM P W enc t l
  | 0, t, l, h => by cases h
  | k + 1, t, l, h => by
    have ih := zmZ els k
    unfold shp at h
    split at h
    . rename_i hu
      cases h
      intro fuel cs x hx
      obtain ⟨b, rfl, _⟩ := DataW.trod_bool hu hx
      exact ⟨(b, ()), .sc rfl, trivial⟩
    . rename_i hu
      cases h
      intro fuel cs x hx
      obtain ⟨n, rfl, _, hw⟩ := DataW.trod_int hu hx
      have := bounds_u64 hw
      refine ⟨(UInt64.ofNat n.toNat, ()), .sc ?_, trivial⟩
      simp only [CS.enc, C.val, Option.some.injEq, Value.int.injEq, true_and]
      rw [UInt64.toNat_ofNat']
      omega
    . rename_i hu
      cases h
      intro fuel cs x hx
      obtain ⟨n, rfl, _, hw⟩ := DataW.trod_int hu hx
      have := bounds_u32 hw
      refine ⟨(UInt32.ofNat n.toNat, ()), .sc ?_, trivial⟩
      simp only [CS.enc, C.val, Option.some.injEq, Value.int.injEq, true_and]
      rw [UInt32.toNat_ofNat']
      omega
    . rename_i hu
      cases h
      intro fuel cs x hx
      obtain ⟨n, rfl, _, hw⟩ := DataW.trod_int hu hx
      have := bounds_u8 hw
      refine ⟨(UInt8.ofNat n.toNat, ()), .sc ?_, trivial⟩
      simp only [CS.enc, C.val, Option.some.injEq, Value.int.injEq, true_and]
      rw [UInt8.toNat_ofNat']
      omega
    . rename_i hu
      cases h
      intro fuel cs x hx
      obtain ⟨n, rfl, _, _⟩ := DataW.trod_int hu hx
      exact ⟨(n, ()), .sc rfl, trivial⟩
    . rename_i hu
      cases h
      intro fuel cs x hx
      obtain ⟨s, rfl, _, _⟩ := DataW.trod_string hu hx
      exact ⟨(s.data.toList, ()), .sc rfl, trivial⟩
    . rename_i e hu
      split at h
      . rename_i el l1 he hl1
        obtain ⟨hc, h⟩ := zaa h
        cases h
        simp only [Bool.and_eq_true, decide_eq_true_eq] at hc
        have e2 := Nat.beq_true hc.2
        rw [hc.1] at hl1 e2
        rw [ztZ] at e2
        exact zlY hu e2 (ih _ _ hl1)
      . cases h
    . rename_i fs hu
      split at h
      . rename_i l1 hl1
        obtain ⟨hc, h⟩ := zaa h
        cases h
        have e2 := Nat.beq_true hc
        intro fuel cs x hx
        obtain ⟨xs, n, _, _, h3, h4, h5⟩ := DataW.trod_struct hu hx
        obtain ⟨y, hy⟩ := zfp (P := P) (W := W) (enc := enc) ih (m := n) (cs := cs) fs.toList 0 _ hl1 (fun f hf => by
          obtain ⟨i, hi, hfi⟩ := List.mem_iff_getElem.1 hf
          have h6 := h5 i f (by rw [← Array.getElem?_toList, List.getElem?_eq_getElem hi, hfi])
          have hi2 : i < xs.length := by rw [h4]; simpa using hi
          rw [List.getElem?_eq_getElem hi2] at h6
          exact ⟨_, h6⟩)
        refine ⟨y, ?_⟩
        rw [List.drop_zero, List.take_of_length_le (by omega)] at hy
        exact hy
      . cases h
    . rename_i n e hu
      split at h
      . rename_i l1 hl1
        obtain ⟨hc, h⟩ := zaa h
        cases h
        simp only [Bool.and_eq_true] at hc
        have e1 := Nat.beq_true hc.1
        have e2 := Nat.beq_true hc.2
        intro fuel cs x hx
        obtain ⟨xs, m, _, _, h3, h4, h5⟩ := DataW.trod_array hu hx
        obtain ⟨y, hy⟩ := zg5 (ih _ _ hl1) (m := m) (sz := l1.length) rfl (cs := cs) n 0 (fun j hj => by
          have h6 := h5 j hj
          rw [e1] at h6
          have hi2 : j < xs.length := by omega
          rw [List.getElem?_eq_getElem hi2] at h6
          rw [Nat.zero_add]
          exact ⟨_, h6⟩)
        refine ⟨y, ?_⟩
        rw [Nat.zero_mul, List.drop_zero, List.take_of_length_le (by omega)] at hy
        exact hy
      . cases h
    . cases h
end
structure KQ where
  k : K
  q : k.T -> Prop
def TKQ : (l : List KQ) -> TKs (l.map KQ.k) -> Prop
  | [], _ => True
  | a :: l, x => a.q x.1 /\ TKQ l x.2
def zg6 (P : Program) (a : KQ) (t : TypeId) : Prop :=
  ∀ (H : Type) (enc : TypeId × Value -> H) (W : World) (base : Nat) (v : Value) (d : DataW H) (p : List MemPlace), Value.okWide P W .any base t v -> DataW.Trod enc P W 0 (fun _ => true) true t v d p ->
    ∃ x : a.k.T, a.q x /\ zhr W (fun b => b < W.heap.size) (a.k.enc x) v
def zke (P : Program) : List KQ -> List TypeId -> Prop
  | [], [] => True
  | k :: ks, t :: ts => zg6 P k t /\ zke P ks ts
  | _, _ => False
theorem zg7 {P : Program} {H : Type} {enc : TypeId × Value -> H} {W : World} {base : Nat} : ∀ {ks : List KQ} {ts : List TypeId} {vs : List Value} {ds : List (DataW H)} {p : List MemPlace}, zke P ks ts -> DataW.TrodAll enc P W 0 (fun _ => true) true ts vs ds p ->
    (∀ (j : Nat) t v, ts[j]? = some t -> vs[j]? = some v -> Value.okWide P W .any base t v) -> ∃ x : TKs (ks.map KQ.k), TKQ ks x /\ za8 W (fun b => b < W.heap.size) (zeL (ks.map KQ.k) x) vs
  | [], [], [], [], _, _, _, _ => ⟨(), trivial, trivial⟩
  | k :: ks, t :: ts, v :: vs, d :: ds, p, ho, ht, hv => by
    obtain ⟨p1, q1, h1, h2, _⟩ := ht
    obtain ⟨x, hx0, hx⟩ := ho.1 H enc W base v d p1 (hv 0 t v rfl rfl) h1
    obtain ⟨y, hy0, hy⟩ := zg7 ho.2 h2 fun j t v hj hw => hv (j + 1) t v (by simpa using hj) (by simpa using hw)
    exact ⟨(x, y), ⟨hx0, hy0⟩, hx, hy⟩
  | [], _ :: _, _, _, _, ho, _, _ => ho.elim
  | _ :: _, [], _, _, _, ho, _, _ => ho.elim
  | [], [], _ :: _, _, _, _, ht, _ => by cases ht
  | [], [], [], _ :: _, _, _, ht, _ => by cases ht
  | _ :: _, _ :: _, [], _, _, _, ht, _ => by cases ht
  | _ :: _, _ :: _, _ :: _, [], _, _, ht, _ => by cases ht
def KQ.any (k : K) : KQ := ⟨k, fun _ => True⟩
theorem zkf {P : Program} {k : K} {t : TypeId} (h : zrK P k t) : zg6 P (KQ.any k) t := fun H enc W base v d p hv ht => by
  obtain ⟨x, hx⟩ := h H enc W base v d p hv ht
  exact ⟨x, trivial, hx⟩
def isAgg : TypeDesc -> Bool
  | .struct _ => true
  | .array _ _ => true
  | _ => false
theorem znV {P : Program} {W : World} {base : Nat} {t : TypeId} {v : Value} {u : TypeDesc} (hu : P.underlying t = some u) (ha : isAgg u = true) (h : Value.okWide P W .any base t v) : ∃ cs, v = .agg cs := by
  unfold Value.okWide at h
  rw [hu] at h
  cases u <;> simp [isAgg] at ha
  . obtain ⟨cs, h, _⟩ := h; exact ⟨cs, h⟩
  . obtain ⟨cs, h, _⟩ := h; exact ⟨cs, h⟩
theorem znW {P : Program} {els : List (Nat × El)} {a : KQ} {t : TypeId} {u : TypeDesc} {l : List CS} (k : Nat) (hu : P.underlying t = some u) (ha : isAgg u = true) (hs : shp P els k t = some l)
    (hc : ∀ y : TCs l, ∃ x : a.k.T, a.q x /\ (a.k.enc x = .agg (zb9 l y) \/ ∃ e m, a.k.enc x = .vec e m /\ flat e m = zb9 l y)) : zg6 P a t := fun H enc W base v d p hv ht => by
  obtain ⟨cs, rfl⟩ := znV hu ha hv
  obtain ⟨fuel, hf⟩ := ht
  obtain ⟨y, hy⟩ := zmZ (W := W) (enc := enc) els k t l hs _ _ _ hf
  obtain ⟨x, hx, h | ⟨e, m, h1, h2⟩⟩ := hc y
  . exact ⟨x, hx, by rw [h]; exact ⟨cs, rfl, hy⟩⟩
  . exact ⟨x, hx, by rw [h1]; exact ⟨cs, rfl, by rw [h2]; exact hy⟩⟩
def KQ.vec (e : El) (n : Nat) : KQ := ⟨K.vec e, fun l => l.length = n⟩
theorem zrO {P : Program} {els : List (Nat × El)} {t : TypeId} {u : TypeDesc} (k : Nat) (hu : P.underlying t = some u) (ha : isAgg u = true) (hs : shp P els k t = some (elCS .fr)) : zg6 P (KQ.any K.fr) t :=
  znW k hu ha hs fun y => ⟨⟨y.1, y.2.1, y.2.2.1, y.2.2.2.1⟩, trivial, Or.inr ⟨.u64, _, rfl, rfl⟩⟩
theorem znX {P : Program} {pd : PD} (hp : PDok P pd) {env : Nat -> Option Sg} (henv : ∀ f g, env f = some g -> SgOK P pd.els f g) {n : FuncId} {fn : Func} (hf : P.funcs[n]? = some fn) (hname : fn.name ≠ "runtime.NumGoroutine")
    (ps : List K) (f : TKs ps -> Option (TKs [K.bool])) (N : Nat) (tab : List (Nat × Head)) (d : Nat)
    (hrun : ∀ x, zjh pd env fn (zce [K.bool]) (mkLp pd env (zc1 pd fn (zce [K.bool])) N tab d) (zeL ps x) = f x)
    (x : TKs ps) (hx : f x = some (true, ())) (w : World) (vs : List Value) (ok : Nat -> Prop) (hok : ∀ b, ok b -> b < w.heap.size) (hh : za8 w ok (zeL ps x) vs) :
    Calls P n vs.toArray w fun e w' => e = .returned (.bool true) /\ Kept w w' := by
  have h := zst (P := P) (pd := pd) hp henv hf hname ⟨TKs [K.bool], 0, fun us => zjh pd env fn (zce [K.bool]) (mkLp pd env (zc1 pd fn (zce [K.bool])) N tab d) us, fun r => zo1 (zeL [K.bool] r)⟩ rfl (zce [K.bool])
    (fun us r h => by rw [zcV h]) N tab d (fun us r h => h) (us := zeL ps x) (r := (true, ())) ((hrun x).trans hx) w vs ok hok hh
  refine h.mono fun e w' he => ?_
  cases e with
  | returned v =>
    obtain ⟨⟨gs, cs, h1, h2⟩, h3⟩ := he
    refine ⟨?_, h3⟩
    cases h1 with
    | c h4 =>
      cases h4
      cases h2 with
      | sc h5 _ => simp only [C.val, Option.some.injEq] at h5; subst h5; rfl
  | panicked ch => exact he.elim
  | outgrown => exact he.elim
end
section
open Go.ChangeShapes Go.WideShapes Go.ChangeAt Go.RowKit
theorem oq24 : zg6 Try.prog (KQ.any (K.ro .u8)) 24 := zkf zwY
theorem oq5 : zg6 Try.prog (KQ.any K.u8) 5 := zkf zzW
theorem oq53 : zg6 Try.prog (KQ.any K.fr) 53 := zrO (els := pd.els) 5 Try.underlying53 rfl (by kernel_rfl)
end
section
def KQ.ro (e : El) : KQ := ⟨K.ro e, fun l => (show List e.T from l).length < 9223372036854775808⟩
end
end Go.Proofs.Ytgimohchocjgcaa.V
