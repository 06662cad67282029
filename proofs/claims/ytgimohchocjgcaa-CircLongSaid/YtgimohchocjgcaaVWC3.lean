import Derived.Test.YtgimohchocjgcaaVCB3
import Derived.Test.YtgimohchocjgcaaVWC2
import Derived.KernelRfl
import Derived.Test.YtgimohchocjgcaaVWB6
set_option linter.unusedVariables false
set_option linter.unusedSimpArgs false
namespace Go.Proofs.Ytgimohchocjgcaa.V
section
def zcX (N : Nat) (A_8 : Int -> Int -> Int -> Int -> (List Row) -> (List Pr) -> Option (Bool × Unit)) (A_12 : Int -> Int -> Int -> Int -> Int -> (List Row) -> (List Pr) -> Option (Bool × Unit)) (n4 i5 k6 ob0_0 ob0_1 : Int) (ob1 : List Row) (ob2 : List Pr) : Option (Bool × Unit) :=
  cond ((ltI k6 (8 : Int))) (must (leI (0 : Int) i5 && ltI i5 (↑ob1.length : Int)) (cond (eqI k6 (↑(0 : Nat) : Int)) (must (eqI k6 (↑(0 : Nat) : Int)) (cond (!eqF (Row.q0 (List.getD ob1 i5.toNat zrow)) (Fr.mk (0 : UInt64) 0 0 0)) (A_12 ((wr (n4 + (32 : Int)))) i5 ((wr ((↑(0 : Nat) : Int) + (1 : Int)))) ob0_0 ob0_1 ob1 ob2) (A_12 n4 i5 ((wr ((↑(0 : Nat) : Int) + (1 : Int)))) ob0_0 ob0_1 ob1 ob2))) (cond (eqI k6 (↑((0 : Nat) + (1 : Nat)) : Int)) (must (eqI k6 (↑((0 : Nat) + (1 : Nat)) : Int)) (cond (!eqF (Row.q1 (List.getD ob1 i5.toNat zrow)) (Fr.mk (0 : UInt64) 0 0 0)) (A_12 ((wr (n4 + (32 : Int)))) i5 ((wr ((↑((0 : Nat) + (1 : Nat)) : Int) + (1 : Int)))) ob0_0 ob0_1 ob1 ob2) (A_12 n4 i5 ((wr ((↑((0 : Nat) + (1 : Nat)) : Int) + (1 : Int)))) ob0_0 ob0_1 ob1 ob2))) (cond (eqI k6 (↑((0 : Nat) + (1 : Nat) + (1 : Nat)) : Int)) (must (eqI k6 (↑((0 : Nat) + (1 : Nat) + (1 : Nat)) : Int)) (cond (!eqF (Row.q2 (List.getD ob1 i5.toNat zrow)) (Fr.mk (0 : UInt64) 0 0 0)) (A_12 ((wr (n4 + (32 : Int)))) i5 ((wr ((↑((0 : Nat) + (1 : Nat) + (1 : Nat)) : Int) + (1 : Int)))) ob0_0 ob0_1 ob1 ob2) (A_12 n4 i5 ((wr ((↑((0 : Nat) + (1 : Nat) + (1 : Nat)) : Int) + (1 : Int)))) ob0_0 ob0_1 ob1 ob2))) (cond (eqI k6 (↑((0 : Nat) + (1 : Nat) + (1 : Nat) + (1 : Nat)) : Int)) (must (eqI k6 (↑((0 : Nat) + (1 : Nat) + (1 : Nat) + (1 : Nat)) : Int)) (cond (!eqF (Row.q3 (List.getD ob1 i5.toNat zrow)) (Fr.mk (0 : UInt64) 0 0 0)) (A_12 ((wr (n4 + (32 : Int)))) i5 ((wr ((↑((0 : Nat) + (1 : Nat) + (1 : Nat) + (1 : Nat)) : Int) + (1 : Int)))) ob0_0 ob0_1 ob1 ob2) (A_12 n4 i5 ((wr ((↑((0 : Nat) + (1 : Nat) + (1 : Nat) + (1 : Nat)) : Int) + (1 : Int)))) ob0_0 ob0_1 ob1 ob2))) (cond (eqI k6 (↑((0 : Nat) + (1 : Nat) + (1 : Nat) + (1 : Nat) + (1 : Nat)) : Int)) (must (eqI k6 (↑((0 : Nat) + (1 : Nat) + (1 : Nat) + (1 : Nat) + (1 : Nat)) : Int)) (cond (!eqF (Row.q4 (List.getD ob1 i5.toNat zrow)) (Fr.mk (0 : UInt64) 0 0 0)) (A_12 ((wr (n4 + (32 : Int)))) i5 ((wr ((↑((0 : Nat) + (1 : Nat) + (1 : Nat) + (1 : Nat) + (1 : Nat)) : Int) + (1 : Int)))) ob0_0 ob0_1 ob1 ob2) (A_12 n4 i5 ((wr ((↑((0 : Nat) + (1 : Nat) + (1 : Nat) + (1 : Nat) + (1 : Nat)) : Int) + (1 : Int)))) ob0_0 ob0_1 ob1 ob2))) (cond (eqI k6 (↑((0 : Nat) + (1 : Nat) + (1 : Nat) + (1 : Nat) + (1 : Nat) + (1 : Nat)) : Int)) (must (eqI k6 (↑((0 : Nat) + (1 : Nat) + (1 : Nat) + (1 : Nat) + (1 : Nat) + (1 : Nat)) : Int)) (cond (!eqF (Row.q5 (List.getD ob1 i5.toNat zrow)) (Fr.mk (0 : UInt64) 0 0 0)) (A_12 ((wr (n4 + (32 : Int)))) i5 ((wr ((↑((0 : Nat) + (1 : Nat) + (1 : Nat) + (1 : Nat) + (1 : Nat) + (1 : Nat)) : Int) + (1 : Int)))) ob0_0 ob0_1 ob1 ob2) (A_12 n4 i5 ((wr ((↑((0 : Nat) + (1 : Nat) + (1 : Nat) + (1 : Nat) + (1 : Nat) + (1 : Nat)) : Int) + (1 : Int)))) ob0_0 ob0_1 ob1 ob2))) (cond (eqI k6 (↑((0 : Nat) + (1 : Nat) + (1 : Nat) + (1 : Nat) + (1 : Nat) + (1 : Nat) + (1 : Nat)) : Int)) (must (eqI k6 (↑((0 : Nat) + (1 : Nat) + (1 : Nat) + (1 : Nat) + (1 : Nat) + (1 : Nat) + (1 : Nat)) : Int)) (cond (!eqF (Row.q6 (List.getD ob1 i5.toNat zrow)) (Fr.mk (0 : UInt64) 0 0 0)) (A_12 ((wr (n4 + (32 : Int)))) i5 ((wr ((↑((0 : Nat) + (1 : Nat) + (1 : Nat) + (1 : Nat) + (1 : Nat) + (1 : Nat) + (1 : Nat)) : Int) + (1 : Int)))) ob0_0 ob0_1 ob1 ob2) (A_12 n4 i5 ((wr ((↑((0 : Nat) + (1 : Nat) + (1 : Nat) + (1 : Nat) + (1 : Nat) + (1 : Nat) + (1 : Nat)) : Int) + (1 : Int)))) ob0_0 ob0_1 ob1 ob2))) (must (eqI k6 (↑((0 : Nat) + (1 : Nat) + (1 : Nat) + (1 : Nat) + (1 : Nat) + (1 : Nat) + (1 : Nat) + (1 : Nat)) : Int)) (must (eqI k6 (↑((0 : Nat) + (1 : Nat) + (1 : Nat) + (1 : Nat) + (1 : Nat) + (1 : Nat) + (1 : Nat) + (1 : Nat)) : Int)) (cond (!eqF (Row.q7 (List.getD ob1 i5.toNat zrow)) (Fr.mk (0 : UInt64) 0 0 0)) (A_12 ((wr (n4 + (32 : Int)))) i5 ((wr ((↑((0 : Nat) + (1 : Nat) + (1 : Nat) + (1 : Nat) + (1 : Nat) + (1 : Nat) + (1 : Nat) + (1 : Nat)) : Int) + (1 : Int)))) ob0_0 ob0_1 ob1 ob2) (A_12 n4 i5 ((wr ((↑((0 : Nat) + (1 : Nat) + (1 : Nat) + (1 : Nat) + (1 : Nat) + (1 : Nat) + (1 : Nat) + (1 : Nat)) : Int) + (1 : Int)))) ob0_0 ob0_1 ob1 ob2)))))))))))) (A_8 n4 ((wr (i5 + (1 : Int)))) ob0_0 ob0_1 ob1 ob2)
theorem ztq : zqG = zcX := by
  (repeat (apply funext; intro _))
  simp only [zqG, zcX, hide_eq, zaf, zah, zai, zag, zal, zao, zaO, zav]
def zcz (N : Nat) (A_8 : Int -> Int -> Int -> Int -> (List Row) -> (List Pr) -> Option (Bool × Unit)) (n : Nat) (n4 i5 k6 ob0_0 ob0_1 : Int) (ob1 : List Row) (ob2 : List Pr) : Option (Bool × Unit) :=
  zaq (fun A x => zcX N A_8 (fun n4 i5 k6 ob0_0 ob0_1 ob1 ob2 => A (((), (n4, (i5, (k6, ())))), ((ob0_0, (ob0_1, ((), ((), ())))), (ob1, (ob2, ()))))) x.1.2.1 x.1.2.2.1 x.1.2.2.2.1 x.2.1.1 x.2.1.2.1 x.2.2.1 x.2.2.2.1) n (((), (n4, (i5, (k6, ())))), ((ob0_0, (ob0_1, ((), ((), ())))), (ob1, (ob2, ()))))
theorem ztr : zqH = zcz := by
  (repeat (apply funext; intro _))
  simp only [zqH, zcz, ztq, zaf, zah, zai, zag, zal, zao, zaO, zav]
theorem za9 (N : Nat) (A_8 : Int -> Int -> Int -> Int -> (List Row) -> (List Pr) -> Option (Bool × Unit)) (n : Nat) (n4 i5 k6 ob0_0 ob0_1 : Int) (ob1 : List Row) (ob2 : List Pr) : zcz N A_8 (n + 1) n4 i5 k6 ob0_0 ob0_1 ob1 ob2 = zcX N A_8 (zcz N A_8 n) n4 i5 k6 ob0_0 ob0_1 ob1 ob2 := rfl
def zoc (N : Nat) (A_8 : Int -> Int -> Int -> Int -> (List Row) -> (List Pr) -> Option (Bool × Unit)) (n4 i5 ob0_0 ob0_1 : Int) (ob1 : List Row) (ob2 : List Pr) : Option (Bool × Unit) :=
  cond ((ltI i5 (↑ob1.length : Int))) (zcz N A_8 N ((wr (n4 + (4 : Int)))) i5 (0 : Int) ob0_0 ob0_1 ob1 ob2) (Option.bind (q139 N ob0_0 ob0_1 ob1 ob2) fun rr0 => cond ((eqI (rr0.2.1) (0 : Int))) (cond ((eqI (↑rr0.1.length : Int) n4)) (must (ltI (0 : Int) (↑rr0.1.length : Int)) (cond ((eqI ((↑(UInt8.toNat (List.getD rr0.1 (0 : Nat) (0 : UInt8))) : Int)) ob0_0)) (must (ltI (1 : Int) (↑rr0.1.length : Int)) (cond ((eqI ((↑(UInt8.toNat (List.getD rr0.1 (1 : Nat) (0 : UInt8))) : Int)) ob0_1)) (must (ltI (2 : Int) (↑rr0.1.length : Int)) (cond ((eqI ((↑(UInt8.toNat (List.getD rr0.1 (2 : Nat) (0 : UInt8))) : Int)) (↑ob1.length : Int))) (must (ltI (3 : Int) (↑rr0.1.length : Int)) (some (((eqI ((↑(UInt8.toNat (List.getD rr0.1 (3 : Nat) (0 : UInt8))) : Int)) (↑ob2.length : Int)), ())))) (some ((false, ()))))) (some ((false, ()))))) (some ((false, ()))))) (some ((false, ())))) (some ((false, ()))))
theorem zwg : zvz = zoc := by
  (repeat (apply funext; intro _))
  simp only [zvz, zoc, hide_eq, ztr, zt4, zaf, zah, zai, zag, zal, zao, zaO, zav]
def zl9 (N n : Nat) (n4 i5 ob0_0 ob0_1 : Int) (ob1 : List Row) (ob2 : List Pr) : Option (Bool × Unit) :=
  zaq (fun A x => zoc N (fun n4 i5 ob0_0 ob0_1 ob1 ob2 => A (((), (n4, (i5, ()))), ((ob0_0, (ob0_1, ((), ((), ())))), (ob1, (ob2, ()))))) x.1.2.1 x.1.2.2.1 x.2.1.1 x.2.1.2.1 x.2.2.1 x.2.2.2.1) n (((), (n4, (i5, ()))), ((ob0_0, (ob0_1, ((), ((), ())))), (ob1, (ob2, ()))))
theorem zwh : zvA = zl9 := by
  (repeat (apply funext; intro _))
  simp only [zvA, zl9, zwg, zaf, zah, zai, zag, zal, zao, zaO, zav]
theorem zih (N n : Nat) (n4 i5 ob0_0 ob0_1 : Int) (ob1 : List Row) (ob2 : List Pr) : zl9 N (n + 1) n4 i5 ob0_0 ob0_1 ob1 ob2 = zoc N (zl9 N n) n4 i5 ob0_0 ob0_1 ob1 ob2 := rfl
def q38 (N : Nat) (l0 : List UInt8) : Option (Bool × Unit) :=
  Option.bind (q138 N) fun rr0 => cond (!rr0.1) (some ((false, ()))) (cond ((ltI (80 : Int) (↑l0.length : Int))) (some ((true, ()))) (Option.bind (q95 N l0 (14 : Int)) fun rr1 => zl9 N N ((wr ((4 : Int) + (wr ((2 : Int) * (↑(List.length (Prod.fst (Prod.snd (Prod.snd (rr1.1.2))))) : Int)))))) (0 : Int) (rr1.1.1) (Prod.fst (rr1.1.2)) (Prod.fst (Prod.snd (rr1.1.2))) (Prod.fst (Prod.snd (Prod.snd (rr1.1.2))))))
theorem zAM : p38 = q38 := by
  (repeat (apply funext; intro _))
  simp only [p38, q38, hide_eq, zwh, zy2, zAL, zaf, zah, zai, zag, zal, zao, zaO, zav]
end
section
def zdA (w : Int) : Row := Row.mk Fr.zero ⟨1, 0, 0, 0⟩ Fr.zero Fr.zero Fr.zero Fr.zero Fr.zero Fr.zero w (-1) (-1)
theorem zts (N : Nat) (w : Int) : q108 N (Stp.mk 7 w 0 0 Fr.zero Fr.zero Fr.zero Fr.zero Fr.zero) = some ([zdA w], 0, ()) := by kernel_rfl
def rw3 (r : Row) : Nat -> Int
  | 0 => r.w0 | 1 => r.w1 | _ => r.w2
def bg (x : Fr) : Bool := !decide (fv x < RR)
def bigR (r : Row) : Bool := bg r.q0 || bg r.q1 || bg r.q2 || bg r.q3 || bg r.q4 || bg r.q5 || bg r.q6 || bg r.q7
def unkR (V : Int) (r : Row) : Bool := leI V r.w0 || leI V r.w1 || leI V r.w2
def unkP (V : Int) (p : Pr) : Bool := ltI p.x 0 || leI V p.x || (ltI p.y 0 || leI V p.y)
def lowR (r : Row) : Bool := ltI r.w0 (-1) || ltI r.w1 (-1) || ltI r.w2 (-1)
def zfO (r : Row) : Bool := ltI r.w0 0 || !zaO r (zdA r.w0)
def zfQ (P : Int) : Nat -> List Row -> Bool
  | _, [] => false
  | i, r :: l => (lowR r || (ltI (i : Int) P && zfO r)) || zfQ P (i + 1) l
def mayF (c0 v1 : Int) (v2 : List Row) (v3 : List Pr) : Int :=
  cond (ltI 8 c0 || ltI 200 v1 || ltI 64 (v2.length : Int) || ltI 200 (v3.length : Int)) 8
    (cond (ltI c0 0 || ltI v1 0 || ltI (v2.length : Int) c0) 1
      (cond (v2.any bigR) 4 (cond (v2.any (unkR v1) || v3.any (unkP v1)) 10 (cond (zfQ c0 0 v2) 3 0))))
section ref
variable {N : Nat} (hN : 2000 <= N) (c0 v1 : Int) (v2 : List Row) (v3 : List Pr)
include hN
end ref
end
section
theorem zma {α : Type} (a b : Bool) (x y : α) : cond a x (cond b x y) = cond (a || b) x y := by cases a <;> rfl
theorem zwi (x y z : Int) : ltI (mnI x y) z = (ltI x z || ltI y z) := by
  have e : ∀ a b : Int, ltI a b = decide (a < b) := fun _ _ => rfl
  unfold mnI
  by_cases h : y < x
  . rw [zae h, cond_true]
    by_cases h2 : y < z
    . rw [zae h2, Bool.or_true]
    . rw [zad h2, zad (show ¬ x < z by omega)]; rfl
  . rw [zad h, cond_false]
    by_cases h2 : x < z
    . rw [zae h2, Bool.true_or]
    . rw [zad h2, zad (show ¬ y < z by omega)]; rfl
theorem zAN (x y z : Int) : leI z (mxI x y) = (leI z x || leI z y) := by
  by_cases h : x < y
  . rw [show mxI x y = y by unfold mxI; first | rw [zae h, cond_true] | (simp [ltI, leI]; omega)]
    by_cases h2 : z <= y
    . rw [zcn h2, Bool.or_true]
    . rw [zaH h2, zaH (show ¬ z <= x by omega)]; rfl
  . rw [show mxI x y = x by unfold mxI; first | rw [zad h, cond_false] | (simp [ltI, leI]; omega)]
    by_cases h2 : z <= x
    . rw [zcn h2, Bool.true_or]
    . rw [zaH h2, zaH (show ¬ z <= y by omega)]; rfl
theorem zAO (x y : Int) : leI x y = !ltI y x := by
  by_cases h : y < x
  . rw [zae h, zaH (by omega)]; rfl
  . rw [zad h, zcn (by omega)]; rfl
theorem zhb {l : List Row} {r : Row} {m : List Row} {i : Nat} (hd : m.drop i = r :: l) (hi : i < m.length) : m.getD i zrow = r /\ m.drop (i + 1) = l := by
  rw [List.drop_eq_getElem_cons hi] at hd
  refine ⟨?_, (List.cons.inj hd).2⟩
  rw [List.getD_eq_getElem?_getD, List.getElem?_eq_getElem hi]
  exact (List.cons.inj hd).1
theorem zwj {l : List Pr} {r : Pr} {m : List Pr} {i : Nat} (hd : m.drop i = r :: l) (hi : i < m.length) : m.getD i ⟨0, 0⟩ = r /\ m.drop (i + 1) = l := by
  rw [List.drop_eq_getElem_cons hi] at hd
  refine ⟨?_, (List.cons.inj hd).2⟩
  rw [List.getD_eq_getElem?_getD, List.getElem?_eq_getElem hi]
  exact (List.cons.inj hd).1
section prog
variable {N : Nat} (hN : 2000 <= N) (c0 v1 : Int) (v2 : List Row) (v3 : List Pr)
include hN
theorem zbw (A : (List Row) -> Int -> Int -> Option (Bool × Unit)) (n : Nat) (t8 : List Row) (t9 t10 : Int) (q : List Fr) (hq : q.length = 8) (k : Nat) (hk : k < 8) :
    zeP N A (n + 1) t8 t9 t10 q (k : Int) = cond (bg (q.getD k Fr.zero)) (some (false, ())) (zeP N A n t8 t9 t10 q ((k + 1 : Nat) : Int)) := by
  rw [zg2]
  unfold zh6
  rw [zae (by omega : (k : Int) < 8), cond_true, zaw, zae (by omega : (k : Int) < ((8 : Nat) : Int)), hq, zae (by omega : (k : Int) < ((8 : Nat) : Int)), zaG (by omega), Int.toNat_natCast, zyL (show 10 < N by omega)]
  simp only [bsm, Bool.and_self, mst2]
  rfl
theorem zrq (A : (List Row) -> Int -> Int -> Option (Bool × Unit)) (t8 : List Row) (t9 t10 : Int) (r : Row) :
    zeP N A N t8 t9 t10 [r.q0, r.q1, r.q2, r.q3, r.q4, r.q5, r.q6, r.q7] 0 = cond (bigR r) (some (false, ())) (A t8 t9 (wr (t10 + 1))) := by
  obtain ⟨n, hn⟩ : ∃ n, N = n + 1 + 1 + 1 + 1 + 1 + 1 + 1 + 1 + 1 := ⟨N - 9, by omega⟩
  have e : ∀ M, M = n + 1 + 1 + 1 + 1 + 1 + 1 + 1 + 1 + 1 -> zeP N A M t8 t9 t10 [r.q0, r.q1, r.q2, r.q3, r.q4, r.q5, r.q6, r.q7] ((0 : Nat) : Int) = cond (bigR r) (some (false, ())) (A t8 t9 (wr (t10 + 1))) := by
    rintro M rfl
    have hl : [r.q0, r.q1, r.q2, r.q3, r.q4, r.q5, r.q6, r.q7].length = 8 := rfl
    rw [zbw hN A _ _ _ _ _ hl 0 (by omega), zbw hN A _ _ _ _ _ hl 1 (by omega), zbw hN A _ _ _ _ _ hl 2 (by omega), zbw hN A _ _ _ _ _ hl 3 (by omega), zbw hN A _ _ _ _ _ hl 4 (by omega), zbw hN A _ _ _ _ _ hl 5 (by omega), zbw hN A _ _ _ _ _ hl 6 (by omega), zbw hN A _ _ _ _ _ hl 7 (by omega), zg2]
    unfold zh6
    rw [zad (by omega), cond_false]
    simp only [zma]
    unfold bigR
    simp only [Bool.or_assoc]
    rfl
  exact e N hn
theorem zkn : ∀ (l : List Row) (i n : Nat), v2.drop i = l -> i + l.length = v2.length -> l.length < n -> v2.length < 1000000 ->
    zh8 N n v2 (v2.length : Int) (i : Int) = some (!l.any bigR, ())
  | [], i, n + 1, hd, hl, hn, hb => by
    simp only [List.length_nil] at hl
    rw [zg3]
    unfold zh7
    rw [zad (by omega), cond_false]
    rfl
  | r :: l, i, n + 1, hd, hl, hn, hb => by
    simp only [List.length_cons] at hl hn
    obtain ⟨hr, hd'⟩ := zhb hd (by omega)
    rw [zg3]
    unfold zh7
    rw [zae (by omega : (i : Int) < (v2.length : Int)), cond_true, zaw, zcf, Int.toNat_natCast, hr, zrq hN, zaG (by omega), zkn l (i + 1) n hd' (by omega) (by omega) hb, List.any_cons]
    cases bigR r <;> rfl
theorem zwk (hb : v2.length < 1000) : q200 N c0 v1 v2 v3 = some (!v2.any bigR, ()) :=
  zkn hN v2 v2 0 N rfl (by omega) (by omega) (by omega)
theorem zfo (A : (List Row) -> Int -> Int -> Int -> Int -> (List Row) -> (List Pr) -> Option (Bool × Unit)) (n : Nat) (t8 : List Row) (t9 t10 : Int) (q : List Int) (hq : q.length = 3) (k : Nat) (hk : k < 3) :
    zeQ N A (n + 1) t8 t9 t10 q (k : Int) c0 v1 v2 v3 = cond (leI v1 (q.getD k 0)) (some (false, ())) (zeQ N A n t8 t9 t10 q ((k + 1 : Nat) : Int) c0 v1 v2 v3) := by
  have _ := hN
  rw [zg4]
  unfold zh9
  rw [zae (by omega : (k : Int) < 3), cond_true, zaw, zae (by omega : (k : Int) < ((3 : Nat) : Int)), hq, zae (by omega : (k : Int) < ((3 : Nat) : Int)), zaG (by omega), Int.toNat_natCast]
  simp only [Bool.and_self, mst2]
theorem zrr (A : (List Row) -> Int -> Int -> Int -> Int -> (List Row) -> (List Pr) -> Option (Bool × Unit)) (t8 : List Row) (t9 t10 : Int) (r : Row) :
    zeQ N A N t8 t9 t10 [r.w0, r.w1, r.w2] 0 c0 v1 v2 v3 = cond (unkR v1 r) (some (false, ())) (A t8 t9 (wr (t10 + 1)) c0 v1 v2 v3) := by
  obtain ⟨n, hn⟩ : ∃ n, N = n + 1 + 1 + 1 + 1 := ⟨N - 4, by omega⟩
  have e : ∀ M, M = n + 1 + 1 + 1 + 1 -> zeQ N A M t8 t9 t10 [r.w0, r.w1, r.w2] ((0 : Nat) : Int) c0 v1 v2 v3 = cond (unkR v1 r) (some (false, ())) (A t8 t9 (wr (t10 + 1)) c0 v1 v2 v3) := by
    rintro M rfl
    have hl : [r.w0, r.w1, r.w2].length = 3 := rfl
    rw [zfo hN c0 v1 v2 v3 A _ _ _ _ _ hl 0 (by omega), zfo hN c0 v1 v2 v3 A _ _ _ _ _ hl 1 (by omega), zfo hN c0 v1 v2 v3 A _ _ _ _ _ hl 2 (by omega), zg4]
    unfold zh9
    rw [zad (by omega), cond_false]
    simp only [zma]
    unfold unkR
    simp only [Bool.or_assoc]
    rfl
  exact e N hn
theorem zii : ∀ (l : List Pr) (i n : Nat), v3.drop i = l -> i + l.length = v3.length -> l.length < n -> v3.length < 1000000 ->
    zeb N n v3 (v3.length : Int) (i : Int) c0 v1 v2 v3 = some (!l.any (unkP v1), ())
  | [], i, n + 1, hd, hl, hn, hb => by
    have _ := hN
    simp only [List.length_nil] at hl
    rw [zfK]
    unfold zfi
    rw [zad (by omega), cond_false]
    rfl
  | r :: l, i, n + 1, hd, hl, hn, hb => by
    simp only [List.length_cons] at hl hn
    obtain ⟨hr, hd'⟩ := zwj hd (by omega)
    rw [zfK]
    unfold zfi
    rw [zae (by omega : (i : Int) < (v3.length : Int)), cond_true, zaw, zcf, Int.toNat_natCast, hr, zaG (by omega), zii l (i + 1) n hd' (by omega) (by omega) hb, List.any_cons, zwi, zAN]
    unfold unkP
    cases ltI r.x 0 <;> cases ltI r.y 0 <;> cases leI v1 r.x <;> cases leI v1 r.y <;> rfl
theorem zko : ∀ (l : List Row) (i n : Nat), v2.drop i = l -> i + l.length = v2.length -> l.length < n -> v2.length < 1000000 ->
    zib N n v2 (v2.length : Int) (i : Int) c0 v1 v2 v3 = cond (l.any (unkR v1)) (some (false, ())) (zeb N N v3 (v3.length : Int) 0 c0 v1 v2 v3)
  | [], i, n + 1, hd, hl, hn, hb => by
    simp only [List.length_nil] at hl
    rw [zg5]
    unfold zia
    rw [zad (by omega), cond_false]
    rfl
  | r :: l, i, n + 1, hd, hl, hn, hb => by
    simp only [List.length_cons] at hl hn
    obtain ⟨hr, hd'⟩ := zhb hd (by omega)
    rw [zg5]
    unfold zia
    rw [zae (by omega : (i : Int) < (v2.length : Int)), cond_true, zaw, zcf, Int.toNat_natCast, hr, zrr hN, zaG (by omega), zko l (i + 1) n hd' (by omega) (by omega) hb, List.any_cons, zma]
theorem zwl (hb : v2.length < 1000) (hb3 : v3.length < 1000) : q201 N c0 v1 v2 v3 = some (!(v2.any (unkR v1) || v3.any (unkP v1)), ()) := by
  refine (zko hN c0 v1 v2 v3 v2 0 N rfl (by omega) (by omega) (by omega)).trans ?_
  have e := zii hN c0 v1 v2 v3 v3 0 N rfl (by omega) (by omega) (by omega)
  cases v2.any (unkR v1)
  . exact e
  . rfl
theorem zwm (r : Row) : q220 N r = some (!zfO r, ()) := by
  have _ := hN
  unfold q220 zfO
  rw [zts]
  simp only [bsm]
  rw [show List.length [zdA r.w0] = 1 from rfl, zae (show (0 : Int) < ((1 : Nat) : Int) by omega), show [zdA r.w0].getD 0 zrow = zdA r.w0 from rfl, mst2, zAO]
  cases ltI r.w0 0 <;> simp
theorem zkp : ∀ (l : List Row) (i n : Nat), v2.drop i = l -> i + l.length = v2.length -> l.length < n -> v2.length < 1000000 ->
    zid N n v2 (v2.length : Int) (i : Int) c0 v1 v2 v3 = some (!zfQ c0 i l, ())
  | [], i, n + 1, hd, hl, hn, hb => by
    simp only [List.length_nil] at hl
    rw [zg6]
    unfold zic
    rw [zad (by omega), cond_false]
    rfl
  | r :: l, i, n + 1, hd, hl, hn, hb => by
    simp only [List.length_cons] at hl hn
    obtain ⟨hr, hd'⟩ := zhb hd (by omega)
    rw [zg6]
    unfold zic
    rw [zae (by omega : (i : Int) < (v2.length : Int)), cond_true, zaw, zcf, Int.toNat_natCast, hr, zal, zwm hN, zaG (by omega), zkp l (i + 1) n hd' (by omega) (by omega) hb, zwi, zwi]
    simp only [bsm, Bool.not_not]
    rw [show zfQ c0 i (r :: l) = ((lowR r || (ltI (i : Int) c0 && zfO r)) || zfQ c0 (i + 1) l) from rfl]
    unfold lowR
    cases ltI (i : Int) c0 <;> cases zfO r <;> cases ltI r.w0 (-1) <;> cases ltI r.w1 (-1) <;> cases ltI r.w2 (-1) <;> rfl
theorem zwn (hb : v2.length < 1000) : q202 N c0 v1 v2 v3 = some (!zfQ c0 0 v2, ()) :=
  zkp hN c0 v1 v2 v3 v2 0 N rfl (by omega) (by omega) (by omega)
theorem zwo (hb : v2.length < 1000) (hb3 : v3.length < 1000) : q119 N c0 v1 v2 v3 = some (mayF c0 v1 v2 v3, ()) := by
  unfold q119 mayF
  rw [zwk hN c0 v1 v2 v3 hb, zwl hN c0 v1 v2 v3 hb hb3, zwn hN c0 v1 v2 v3 hb]
  simp only [bsm, Bool.not_not]
  generalize ltI 8 c0 = a1
  generalize ltI 200 v1 = a2
  generalize ltI 64 (v2.length : Int) = a3
  generalize ltI 200 (v3.length : Int) = a4
  generalize ltI c0 0 = a5
  generalize ltI v1 0 = a6
  generalize ltI (v2.length : Int) c0 = a7
  generalize v2.any bigR = b1
  generalize (v2.any (unkR v1) || v3.any (unkP v1)) = b2
  generalize zfQ c0 0 v2 = b3
  cases a1 <;> cases a2 <;> cases a3 <;> cases a4 <;> simp only [cond_true, cond_false, Bool.true_or, Bool.or_true, Bool.false_or, Bool.or_false]
  cases a5 <;> cases a6 <;> cases a7 <;> simp only [cond_true, cond_false, Bool.true_or, Bool.or_true, Bool.false_or, Bool.or_false]
  cases b1 <;> cases b2 <;> cases b3 <;> rfl
end prog
structure GoodCirc (c0 v1 : Int) (v2 : List Row) (v3 : List Pr) : Prop where
  p0 : 0 <= c0
  p8 : c0 <= 8
  v0 : 0 <= v1
  v200 : v1 <= 200
  rows : v2.length <= 64
  same : v3.length <= 200
  pub : c0 <= (v2.length : Int)
  big : v2.any bigR = false
  unk : v2.any (unkR v1) = false
  unkp : v3.any (unkP v1) = false
  form : zfQ c0 0 v2 = false
theorem GoodCirc.may {c0 v1 : Int} {v2 : List Row} {v3 : List Pr} (h : GoodCirc c0 v1 v2 v3) : mayF c0 v1 v2 v3 = 0 := by
  have := h.p0
  have := h.p8
  have := h.v0
  have := h.v200
  have := h.rows
  have := h.same
  have := h.pub
  unfold mayF
  rw [zad (by omega : ¬ 8 < c0), zad (by omega : ¬ 200 < v1), zad (by omega : ¬ 64 < (v2.length : Int)), zad (by omega : ¬ 200 < (v3.length : Int)), zad (by omega : ¬ c0 < 0), zad (by omega : ¬ v1 < 0), zad (by omega : ¬ (v2.length : Int) < c0), h.big, h.unk, h.unkp, h.form]
  rfl
theorem GoodCirc.pairs {c0 v1 : Int} {v2 : List Row} {v3 : List Pr} (h : GoodCirc c0 v1 v2 v3) {V : Nat} (hV : v1 = (V : Int)) : zwd v3 V := by
  intro p hp
  have h2 := List.any_eq_false.mp h.unkp p hp
  unfold unkP at h2
  simp only [Bool.or_eq_true, not_or, Bool.not_eq_true] at h2
  obtain ⟨⟨a, b⟩, c, d⟩ := h2
  have := of_decide_eq_false a
  have := of_decide_eq_false b
  have := of_decide_eq_false c
  have := of_decide_eq_false d
  subst hV
  omega
theorem zkq {P : Int} : ∀ {l : List Row} {i : Nat}, zfQ P i l = false -> ∀ r ∈ l, lowR r = false
  | [], _, _, r, hr => absurd hr (by simp)
  | x :: l, i, h, r, hr => by
    unfold zfQ at h
    simp only [Bool.or_eq_false_iff] at h
    rcases List.mem_cons.mp hr with rfl | hr
    . exact h.1.1
    . exact zkq h.2 r hr
theorem GoodCirc.vars {c0 v1 : Int} {v2 : List Row} {v3 : List Pr} (h : GoodCirc c0 v1 v2 v3) {r : Row} (hr : r ∈ v2) (j : Nat) : -1 <= rw3 r j /\ rw3 r j < v1 := by
  have h1 := List.any_eq_false.mp h.unk r hr
  have h2 := zkq h.form r hr
  unfold unkR at h1
  unfold lowR at h2
  simp only [Bool.or_eq_true, not_or, Bool.not_eq_true] at h1
  simp only [Bool.or_eq_false_iff] at h2
  obtain ⟨⟨a, b⟩, c⟩ := h1
  obtain ⟨⟨a', b'⟩, c'⟩ := h2
  have := of_decide_eq_false a
  have := of_decide_eq_false b
  have := of_decide_eq_false c
  have := of_decide_eq_false a'
  have := of_decide_eq_false b'
  have := of_decide_eq_false c'
  match j with
  | 0 => exact ⟨by simp only [rw3]; omega, by simp only [rw3]; omega⟩
  | 1 => exact ⟨by simp only [rw3]; omega, by simp only [rw3]; omega⟩
  | _ + 2 => exact ⟨by simp only [rw3]; omega, by simp only [rw3]; omega⟩
end
section
def up (m j i : Nat) (v : Int) (o : List Int) : List Int := if j = m then setL o i v else o
theorem zrs (m j i : Nat) (v : Int) (o : List Int) : (up m j i v o).length = o.length := by
  unfold up
  split
  . rw [zc8]
  . rfl
theorem cell {n j i : Nat} (hi : i < n) : (j * n + i) / n = j /\ (j * n + i) % n = i := by
  have h0 : 0 < n := by omega
  refine ⟨?_, ?_⟩
  . rw [Nat.mul_comm, Nat.mul_add_div h0, Nat.div_eq_of_lt hi, Nat.add_zero]
  . rw [Nat.mul_comm, Nat.mul_add_mod, Nat.mod_eq_of_lt hi]
structure PInv (k : Nat -> Int) (V n a : Nat) (fi la : List Int) (O : Nat -> Int) : Prop where
  lf : fi.length = V
  ll : la.length = V
  F : ∀ c : Nat, c < V -> (fi.getD c 0 = -1 /\ ∀ z, z < a -> k z ≠ c) \/ ∃ f g : Nat, fi.getD c 0 = f /\ la.getD c 0 = g /\ f <= g /\ g < a /\ k f = c /\ k g = c /\ (∀ z, z < f -> k z ≠ c) /\ ∀ z, g < z -> z < a -> k z ≠ c
  O : ∀ z, z < a -> (k z < 0 /\ O z = z) \/ ∃ c : Nat, c < V /\ k z = c /\ ((∃ y : Nat, z < y /\ y < a /\ k y = c /\ (∀ w, z < w -> w < y -> k w ≠ c) /\ O z = y) \/ ((∀ w, z < w -> w < a -> k w ≠ c) /\ O z = fi.getD c 0))
end
section
def Len3 (n j : Nat) (o0 o1 o2 : List Int) : Prop := o0.length = n /\ (1 <= j -> o1.length = n) /\ (2 <= j -> o2.length = n)
theorem Len3.up {n j : Nat} {o0 o1 o2 : List Int} (h : Len3 n j o0 o1 o2) (q i : Nat) (v : Int) : Len3 n j (up 0 q i v o0) (up 1 q i v o1) (up 2 q i v o2) :=
  ⟨by rw [zrs]; exact h.1, fun hj => by rw [zrs]; exact h.2.1 hj, fun hj => by rw [zrs]; exact h.2.2 hj⟩
structure Ground (cl : List Int) (rows : List Row) (n V : Nat) : Prop where
  n1 : 1 <= n
  n64 : n <= 64
  rl : rows.length <= n
  lc : cl.length = V
  cc : ∀ v : Nat, v < V -> ∃ c : Nat, c < V /\ cl.getD v 0 = (c : Int)
  vars : ∀ r ∈ rows, ∀ j, -1 <= rw3 r j /\ rw3 r j < (V : Int)
end
section
instance : Big 100000 := ⟨by omega⟩
end
section
def numN (l : List UInt8) (n : Nat) : Nat := cond (Nat.ble l.length n) n (n + 1)
def numX (l : List UInt8) (n m : Nat) : Nat := cond (Nat.ble l.length n) 0 ((l.getD n 0).toNat % m)
theorem zec (l : List UInt8) (n : Nat) {m : Nat} (h : 0 < m) : numX l n m < m := by
  unfold numX
  cases Nat.ble l.length n with
  | true => exact h
  | false => exact Nat.mod_lt _ h
theorem zed (l : List UInt8) (n : Nat) : numN l n <= n + 1 := by
  unfold numN
  cases Nat.ble l.length n <;> simp
theorem zee {N n m : Nat} {l : List UInt8} (hm : 0 < m) (hn : n < 1000000) : q186 N (n : Int) l (m : Int) = some ((((numN l n : Nat) : Int), ()), ((numX l n m : Nat) : Int), ()) := by
  unfold q186 numN numX
  cases h : Nat.ble l.length n with
  | true =>
    have h1 := Nat.le_of_ble_eq_true h
    rw [zcn (by omega), cond_true]
    rfl
  | false =>
    have h1 : n < l.length := by
      rcases Nat.lt_or_ge n l.length with h2 | h2
      . exact h2
      . rw [Nat.ble_eq_true_of_le h2] at h; cases h
    rw [zaH (by omega), cond_false, zaG (by omega)]
    have e : wr (((n + 1 : Nat) : Int) - 1) = (n : Int) := by rw [show (((n + 1 : Nat) : Int) - 1) = (n : Int) by omega]; exact zbN (by omega) (by omega)
    rw [e, zcn (by omega), zae (by omega), zpy (by omega), Int.toNat_natCast]
    rfl
theorem zkr {N : Nat} (hN : 10 < N) {q : Fr} (h : Sc q) : q69 N q = some (true, ()) := by rw [zyK hN]; unfold Sc at h; rw [decide_eq_true h]
theorem l196 (N M : Nat) (hN : 10 < N) (V : Int) (s : Stp) (h0 : Sc s.q0) (h1 : Sc s.q1) (h2 : Sc s.q2) (h3 : Sc s.q3) (h4 : Sc s.q4) : zha N (M + 6) V 0 s = zbl N (zha N M) V 5 s := by
  have s0 : ∀ A, zbl N A V 0 s = A V 1 s := fun A => by unfold zbl; rw [zkr hN h0]; kernel_rfl
  have s1 : ∀ A, zbl N A V 1 s = A V 2 s := fun A => by unfold zbl; rw [zkr hN h1]; kernel_rfl
  have s2 : ∀ A, zbl N A V 2 s = A V 3 s := fun A => by unfold zbl; rw [zkr hN h2]; kernel_rfl
  have s3 : ∀ A, zbl N A V 3 s = A V 4 s := fun A => by unfold zbl; rw [zkr hN h3]; kernel_rfl
  have s4 : ∀ A, zbl N A V 4 s = A V 5 s := fun A => by unfold zbl; rw [zkr hN h4]; kernel_rfl
  rw [zb2, s0, zb2, s1, zb2, s2, zb2, s3, zb2, s4, zb2]
def okV (kd V v : Int) : Prop := v < V /\ (0 <= v \/ kd = 2)
theorem zAP (N M : Nat) (V : Int) (s : Stp) (f0 f1 f2 : Bool) (h0 : f0 = true -> okV s.kind V s.v0) (h1 : f1 = true -> okV s.kind V s.v1) (h2 : f2 = true -> okV s.kind V s.v2) : zaU N (M + 4) V 0 s [f0, f1, f2] = some (0, ()) := by
  have key : ∀ (v : Int) (X : Option (Int × Unit)), okV s.kind V v -> cond (leI V v) (some ((10 : Int), ())) (cond (ltI v 0) (cond (!eqI s.kind 2) (some ((10 : Int), ())) X) X) = X := fun v X ⟨a, b⟩ => by
    rw [zaH (by omega), cond_false]
    by_cases hv : v < 0
    . rw [zae hv, cond_true, za8 (by omega), Bool.not_true, cond_false]
    . rw [zad (by omega), cond_false]
  have s0 : ∀ A, zb1 N A V 0 s [f0, f1, f2] = A V 1 s [f0, f1, f2] := fun A => by
    have e : zb1 N A V 0 s [f0, f1, f2] = cond f0 (cond (leI V s.v0) (some ((10 : Int), ())) (cond (ltI s.v0 0) (cond (!eqI s.kind 2) (some ((10 : Int), ())) (A V 1 s [f0, f1, f2])) (A V 1 s [f0, f1, f2]))) (A V 1 s [f0, f1, f2]) := by unfold zb1; kernel_rfl
    rw [e]
    cases f0 with
    | false => rfl
    | true => rw [cond_true, key _ _ (h0 rfl)]
  have s1 : ∀ A, zb1 N A V 1 s [f0, f1, f2] = A V 2 s [f0, f1, f2] := fun A => by
    have e : zb1 N A V 1 s [f0, f1, f2] = cond f1 (cond (leI V s.v1) (some ((10 : Int), ())) (cond (ltI s.v1 0) (cond (!eqI s.kind 2) (some ((10 : Int), ())) (A V 2 s [f0, f1, f2])) (A V 2 s [f0, f1, f2]))) (A V 2 s [f0, f1, f2]) := by unfold zb1; kernel_rfl
    rw [e]
    cases f1 with
    | false => rfl
    | true => rw [cond_true, key _ _ (h1 rfl)]
  have s2 : ∀ A, zb1 N A V 2 s [f0, f1, f2] = A V 3 s [f0, f1, f2] := fun A => by
    have e : zb1 N A V 2 s [f0, f1, f2] = cond f2 (cond (leI V s.v2) (some ((10 : Int), ())) (cond (ltI s.v2 0) (cond (!eqI s.kind 2) (some ((10 : Int), ())) (A V 3 s [f0, f1, f2])) (A V 3 s [f0, f1, f2]))) (A V 3 s [f0, f1, f2]) := by unfold zb1; kernel_rfl
    rw [e]
    cases f2 with
    | false => rfl
    | true => rw [cond_true, key _ _ (h2 rfl)]
  rw [zcI, s0, zcI, s1, zcI, s2, zcI]
  rfl
def ScS (s : Stp) : Prop := Sc s.q0 /\ Sc s.q1 /\ Sc s.q2 /\ Sc s.q3 /\ Sc s.q4
def okS (V : Int) (s : Stp) : Prop := (1 <= s.kind /\ s.kind <= 7) /\ ScS s /\ (1 < s.kind -> okV s.kind V s.v0) /\ (s.kind = 2 \/ s.kind = 5 \/ s.kind = 6 -> okV s.kind V s.v1) /\ (s.kind = 2 \/ s.kind = 4 \/ s.kind = 5 -> okV s.kind V s.v2)
theorem zwp {N : Nat} (hN : 100 <= N) {V : Int} {s : Stp} (h : okS V s) : q196 N s V = some (0, ()) := by
  obtain ⟨⟨k1, k2⟩, ⟨a0, a1, a2, a3, a4⟩, b0, b1, b2⟩ := h
  obtain ⟨M, rfl⟩ : ∃ M, N = M + 6 := ⟨N - 6, by omega⟩
  unfold q196
  rw [zad (by omega), cond_false, zad (by omega), cond_false, l196 _ M (by omega) V s a0 a1 a2 a3 a4]
  obtain ⟨k, v0, v1, v2, q0, q1, q2, q3, q4⟩ := s
  simp only at k1 k2 b0 b1 b2
  have go : ∀ f0 f1 f2, (f0 = true -> okV k V v0) -> (f1 = true -> okV k V v1) -> (f2 = true -> okV k V v2) -> zaU (M + 6) (M + 6) V 0 ⟨k, v0, v1, v2, q0, q1, q2, q3, q4⟩ [f0, f1, f2] = some (0, ()) := fun f0 f1 f2 h0 h1 h2 => zAP (M + 6) (M + 2) V _ f0 f1 f2 h0 h1 h2
  have hk : k = 1 \/ k = 2 \/ k = 3 \/ k = 4 \/ k = 5 \/ k = 6 \/ k = 7 := by omega
  rcases hk with rfl | rfl | rfl | rfl | rfl | rfl | rfl
  . exact (show _ = zaU (M + 6) (M + 6) V 0 ⟨1, v0, v1, v2, q0, q1, q2, q3, q4⟩ [false, false, false] by unfold zbl; kernel_rfl).trans (go _ _ _ (fun h => by cases h) (fun h => by cases h) (fun h => by cases h))
  . exact (show _ = zaU (M + 6) (M + 6) V 0 ⟨2, v0, v1, v2, q0, q1, q2, q3, q4⟩ [true, true, true] by unfold zbl; kernel_rfl).trans (go _ _ _ (fun _ => b0 (by omega)) (fun _ => b1 (by omega)) (fun _ => b2 (by omega)))
  . exact (show _ = zaU (M + 6) (M + 6) V 0 ⟨3, v0, v1, v2, q0, q1, q2, q3, q4⟩ [true, false, false] by unfold zbl; kernel_rfl).trans (go _ _ _ (fun _ => b0 (by omega)) (fun h => by cases h) (fun h => by cases h))
  . exact (show _ = zaU (M + 6) (M + 6) V 0 ⟨4, v0, v1, v2, q0, q1, q2, q3, q4⟩ [true, false, true] by unfold zbl; kernel_rfl).trans (go _ _ _ (fun _ => b0 (by omega)) (fun h => by cases h) (fun _ => b2 (by omega)))
  . exact (show _ = zaU (M + 6) (M + 6) V 0 ⟨5, v0, v1, v2, q0, q1, q2, q3, q4⟩ [true, true, true] by unfold zbl; kernel_rfl).trans (go _ _ _ (fun _ => b0 (by omega)) (fun _ => b1 (by omega)) (fun _ => b2 (by omega)))
  . exact (show _ = zaU (M + 6) (M + 6) V 0 ⟨6, v0, v1, v2, q0, q1, q2, q3, q4⟩ [true, true, false] by unfold zbl; kernel_rfl).trans (go _ _ _ (fun _ => b0 (by omega)) (fun _ => b1 (by omega)) (fun h => by cases h))
  . exact (show _ = zaU (M + 6) (M + 6) V 0 ⟨7, v0, v1, v2, q0, q1, q2, q3, q4⟩ [true, false, false] by unfold zbl; kernel_rfl).trans (go _ _ _ (fun _ => b0 (by omega)) (fun h => by cases h) (fun h => by cases h))
def one1 : Fr := ⟨1, 0, 0, 0⟩
def zcg (s : Stp) : List Row :=
  cond (eqI s.kind 2) [⟨s.q0, s.q1, s.q2, s.q3, s.q4, .zero, .zero, .zero, mxI s.v0 (-1), mxI s.v1 (-1), mxI s.v2 (-1)⟩]
    (cond (eqI s.kind 3) [⟨.zero, .zero, .zero, .zero, .zero, one1, .zero, .zero, s.v0, -1, -1⟩]
      (cond (eqI s.kind 4) [⟨.zero, .zero, .zero, .zero, .zero, .zero, one1, .zero, s.v0, -1, s.v2⟩]
        (cond (eqI s.kind 5) [⟨.zero, .zero, .zero, .zero, .zero, .zero, .zero, one1, s.v0, s.v1, -1⟩, ⟨.zero, .zero, .zero, .zero, .zero, .zero, .zero, .zero, s.v2, -1, -1⟩]
          (cond (eqI s.kind 7) [zdA s.v0] []))))
theorem zy6 (M : Nat) (v0 v1 v2 : Int) (q0 q1 q2 q3 q4 : Fr) : q197 (M + 8) ⟨1, v0, v1, v2, q0, q1, q2, q3, q4⟩ = some (zcg ⟨1, v0, v1, v2, q0, q1, q2, q3, q4⟩, 0, ()) := by kernel_rfl
theorem zy7 (M : Nat) (v0 v1 v2 : Int) (q0 q1 q2 q3 q4 : Fr) : q197 (M + 8) ⟨2, v0, v1, v2, q0, q1, q2, q3, q4⟩ = some (zcg ⟨2, v0, v1, v2, q0, q1, q2, q3, q4⟩, 0, ()) := by kernel_rfl
theorem zy8 (M : Nat) (v0 v1 v2 : Int) (q0 q1 q2 q3 q4 : Fr) : q197 (M + 8) ⟨3, v0, v1, v2, q0, q1, q2, q3, q4⟩ = some (zcg ⟨3, v0, v1, v2, q0, q1, q2, q3, q4⟩, 0, ()) := by kernel_rfl
theorem zy9 (M : Nat) (v0 v1 v2 : Int) (q0 q1 q2 q3 q4 : Fr) : q197 (M + 8) ⟨4, v0, v1, v2, q0, q1, q2, q3, q4⟩ = some (zcg ⟨4, v0, v1, v2, q0, q1, q2, q3, q4⟩, 0, ()) := by kernel_rfl
theorem zza (M : Nat) (v0 v1 v2 : Int) (q0 q1 q2 q3 q4 : Fr) : q197 (M + 8) ⟨5, v0, v1, v2, q0, q1, q2, q3, q4⟩ = some (zcg ⟨5, v0, v1, v2, q0, q1, q2, q3, q4⟩, 0, ()) := by kernel_rfl
theorem zzb (M : Nat) (v0 v1 v2 : Int) (q0 q1 q2 q3 q4 : Fr) : q197 (M + 8) ⟨6, v0, v1, v2, q0, q1, q2, q3, q4⟩ = some (zcg ⟨6, v0, v1, v2, q0, q1, q2, q3, q4⟩, 0, ()) := by kernel_rfl
theorem zzc (M : Nat) (v0 v1 v2 : Int) (q0 q1 q2 q3 q4 : Fr) : q197 (M + 8) ⟨7, v0, v1, v2, q0, q1, q2, q3, q4⟩ = some (zcg ⟨7, v0, v1, v2, q0, q1, q2, q3, q4⟩, 0, ()) := by kernel_rfl
theorem zwq {N : Nat} (hN : 100 <= N) {s : Stp} (h : 1 <= s.kind /\ s.kind <= 7) : q197 N s = some (zcg s, 0, ()) := by
  obtain ⟨M, rfl⟩ : ∃ M, N = M + 8 := ⟨N - 8, by omega⟩
  obtain ⟨k, v0, v1, v2, q0, q1, q2, q3, q4⟩ := s
  simp only at h
  have hk : k = 1 \/ k = 2 \/ k = 3 \/ k = 4 \/ k = 5 \/ k = 6 \/ k = 7 := by omega
  rcases hk with rfl | rfl | rfl | rfl | rfl | rfl | rfl
  . exact zy6 ..
  . exact zy7 ..
  . exact zy8 ..
  . exact zy9 ..
  . exact zza ..
  . exact zzb ..
  . exact zzc ..
theorem zwr {N : Nat} (hN : 100 <= N) {V : Nat} {pb rw : List Row} {sm : List Pr} {s : Stp} (h : okS (V : Int) s) (h1 : pb.length < 8) (h2 : pb.length + rw.length + (zcg s).length <= 64) (h3 : sm.length < 200) (h4 : V < 200) :
    q115 N (V : Int) pb rw sm s = some (((cond (eqI s.kind 1) ((V + 1 : Nat) : Int) (V : Int), cond (eqI s.kind 7) (pb ++ zcg s) pb, cond (eqI s.kind 7) rw (rw ++ zcg s), cond (eqI s.kind 6) (sm ++ [⟨s.v0, s.v1⟩]) sm, ()), cond (eqI s.kind 1) (V : Int) 0, 0, ())) := by
  unfold q115
  rw [zwp hN h]
  simp only [bsm]
  rw [za8 rfl, Bool.not_true, cond_false, zwq hN h.1]
  simp only [bsm]
  have e1 : wr ((pb.length : Int) + (rw.length : Int)) = ((pb.length + rw.length : Nat) : Int) := by rw [zbN (by omega) (by omega)]; omega
  have e2 : wr (((pb.length + rw.length : Nat) : Int) + ((zcg s).length : Int)) = ((pb.length + rw.length + (zcg s).length : Nat) : Int) := by rw [zbN (by omega) (by omega)]; omega
  have e3 : wr (((V + 1 : Nat) : Int) - 1) = (V : Int) := by rw [zbN (by omega) (by omega)]; omega
  rw [e1, e2, zad (by omega), cond_false, zaH (by omega), zaH (by omega), zaH (by omega), zaG (by omega), e3]
  simp only [cond_false, Nat.zero_add, List.length_cons, List.length_nil]
  rw [zay (by omega), zay (by omega), zay (by omega), zay (by omega), zay (by omega), zay (by omega)]
  simp only [mst2]
  obtain ⟨k, v0, v1, v2, q0, q1, q2, q3, q4⟩ := s
  obtain ⟨⟨k1, k2⟩, _⟩ := h
  simp only at k1 k2
  have hk : k = 1 \/ k = 2 \/ k = 3 \/ k = 4 \/ k = 5 \/ k = 6 \/ k = 7 := by omega
  rcases hk with rfl | rfl | rfl | rfl | rfl | rfl | rfl
  . show _ = some ((((V + 1 : Nat) : Int), pb, rw ++ [], sm, ()), (V : Int), 0, ())
    rw [List.append_nil]
    rfl
  . rfl
  . rfl
  . rfl
  . rfl
  . show _ = some (((V : Int), pb, rw ++ ([] : List Row), sm ++ [Pr.mk v0 v1], ()), (0 : Int), (0 : Int), ())
    rw [List.append_nil]
    rfl
  . rfl
theorem zjc {N : Nat} (hN : 100 <= N) {V : Nat} {pb rw : List Row} {sm : List Pr} {pv vs : List Fr} {st : List Stp} {s : Stp} (h : okS (V : Int) s) (h1 : pb.length < 8) (h2 : pb.length + rw.length + (zcg s).length <= 64) (h3 : sm.length < 200) (h4 : V < 200)
    (h5 : st.length < 1000) (h6 : vs.length < 1000) (c : Fr) :
    q187 N 0 0 [] [] pv vs st (V : Int) pb rw sm s c = some ((0, 0, [], [], pv, cond (eqI s.kind 1) (vs ++ [c]) vs, st ++ [s], ()), (cond (eqI s.kind 1) ((V + 1 : Nat) : Int) (V : Int), cond (eqI s.kind 7) (pb ++ zcg s) pb, cond (eqI s.kind 7) rw (rw ++ zcg s), cond (eqI s.kind 6) (sm ++ [⟨s.v0, s.v1⟩]) sm, ()), cond (eqI s.kind 1) (V : Int) 0, ()) := by
  unfold q187
  rw [zwr hN h h1 h2 h3 h4]
  simp only [bsm]
  rw [za8 rfl, Bool.not_true, cond_false]
  simp only [List.length_cons, List.length_nil]
  rw [zay (by omega), zay (by omega)]
  simp only [mst2]
  cases eqI s.kind 1 <;> rfl
def svar : Stp := ⟨1, 0, 0, 0, .zero, .zero, .zero, .zero, .zero⟩
theorem zws (V : Int) : okS V svar := ⟨⟨by decide, by decide⟩, ⟨zaC, zaC, zaC, zaC, zaC⟩, fun h => absurd h (by decide), fun h => absurd h (by decide), fun h => absurd h (by decide)⟩
theorem zmb {N : Nat} (hN : 100 <= N) {pb rw : List Row} {sm : List Pr} {pv vs : List Fr} {st : List Stp} (h1 : pb.length < 8) (h2 : pb.length + rw.length <= 64) (h3 : sm.length < 200) (h4 : vs.length < 200)
    (h5 : st.length < 1000) (c : Fr) :
    q185 N 0 0 [] [] pv vs st (vs.length : Int) pb rw sm c = some ((0, 0, [], [], pv, vs ++ [c], st ++ [svar], ()), (((vs.length + 1 : Nat) : Int), pb, rw, sm, ()), (vs.length : Int), ()) := by
  unfold q185
  rw [show Stp.mk 1 0 0 0 Fr.zero Fr.zero Fr.zero Fr.zero Fr.zero = svar from rfl, zjc hN (zws _) h1 (by rw [show (zcg svar).length = 0 from rfl]; omega) h3 h4 h5 (by omega) c]
  simp only [bsm]
  show some ((0, 0, [], [], pv, vs ++ [c], st ++ [svar], ()), (((vs.length + 1 : Nat) : Int), pb, rw ++ [], sm, ()), (vs.length : Int), ()) = _
  rw [List.append_nil]
end
end Go.Proofs.Ytgimohchocjgcaa.V
