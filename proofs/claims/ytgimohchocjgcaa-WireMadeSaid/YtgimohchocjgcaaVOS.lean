import Derived.Test.YtgimohchocjgcaaVWC3
import Derived.KernelRfl
import Derived.Test.YtgimohchocjgcaaVME
import Derived.WalkKit
import Derived.ProofKit
import Derived.OpenShut
import Derived.Carry
import Derived.ChangeSlices
import Derived.Test.YtgimohchocjgcaaVRW
import Derived.Test.YtgimohchocjgcaaVTM
set_option linter.unusedVariables false
set_option linter.unusedSimpArgs false
namespace Go.Proofs.Ytgimohchocjgcaa.V
section
structure PlS where
  n : Nat
  pv : List Fr
  vs : List Fr
  st : List Stp
  pb : List Row
  rw : List Row
  sm : List Pr
def zdC (n : Nat) : Fr := ⟨u64I (n : Int), 0, 0, 0⟩
def five : Fr := ⟨5, 0, 0, 0⟩
def fneg (a : Fr) : Fr := frN ((RR - fv a) % RR)
def PlS.val (s : PlS) (x : Nat) : Fr := s.vs.getD x Fr.zero
def PlS.two (s : PlS) (n : Nat) (c : Fr) (t : Stp) : PlS := ⟨n, s.pv, s.vs ++ [c], s.st ++ [svar] ++ [t], s.pb, s.rw ++ zb1 t, cond (eqI t.kind 6) (s.sm ++ [⟨t.v0, t.v1⟩]) s.sm⟩
def tMul (x y z : Nat) (k : Fr) : Stp := ⟨2, x, y, z, one1, k, .zero, fneg one1, five⟩
def ztY (z : Nat) : Stp := ⟨3, z, 0, 0, .zero, .zero, .zero, .zero, .zero⟩
def tPow (x z : Nat) : Stp := ⟨4, x, 0, z, .zero, .zero, .zero, .zero, .zero⟩
def ztZ (x y z : Nat) : Stp := ⟨5, x, y, z, .zero, .zero, .zero, .zero, .zero⟩
def zt0 (z x : Nat) : Stp := ⟨6, z, x, 0, .zero, .zero, .zero, .zero, .zero⟩
def tPub (x : Nat) : Stp := ⟨7, x, 0, 0, .zero, .zero, .zero, .zero, .zero⟩
def tNo (x : Nat) : Stp := ⟨2, x, -5, x, .zero, one1, .zero, fneg one1, .zero⟩
inductive Gate : PlS -> PlS -> Prop
  | mul {s : PlS} (n x y k : Nat) (hx : x < s.vs.length) (hy : y < s.vs.length) (hk : k < 9) :
      Gate s (s.two n (fadd (fadd (fmul (s.val x) (s.val y)) (fmul (zdC k) (s.val x))) five) (tMul x y s.vs.length (zdC k)))
  | bool {s : PlS} (n k : Nat) (hk : k < 2) : Gate s (s.two n (zdC k) (ztY s.vs.length))
  | pow {s : PlS} (n x : Nat) (hx : x < s.vs.length) : Gate s (s.two n (frN (fv (s.val x) ^ 5 % RR)) (tPow x s.vs.length))
  | next {s : PlS} (n x y : Nat) (hx : x < s.vs.length) (hy : y < s.vs.length) : Gate s (s.two n (fadd (s.val x) (s.val y)) (ztZ x y s.vs.length))
  | same {s : PlS} (n x : Nat) (hx : x < s.vs.length) : Gate s (s.two n (s.val x) (zt0 s.vs.length x))
  | pub {s : PlS} (n x : Nat) (hx : x < s.vs.length) (hp : s.pv.length < 3) : Gate s ⟨n, s.pv ++ [s.val x], s.vs, s.st ++ [tPub x], s.pb ++ [zdo x], s.rw, s.sm⟩
  | skip {s : PlS} (n : Nat) : Gate s ⟨n, s.pv, s.vs, s.st, s.pb, s.rw, s.sm⟩
  | no {s : PlS} (n x : Nat) (hx : x < s.vs.length) : Gate s ⟨n, s.pv, s.vs, s.st ++ [tNo x], s.pb, s.rw ++ zb1 (tNo x), s.sm⟩
structure PlI (g : Nat) (s : PlS) : Prop where
  v2 : 2 <= s.vs.length
  v : s.vs.length <= 2 + g
  p : s.pv.length <= 3
  pp : s.pb.length = s.pv.length
  r : s.rw.length <= 2 * g
  m : s.sm.length <= g
  st : s.st.length <= 2 + 2 * g
  sc : ∀ x ∈ s.vs, Sc x
theorem PlI.val {g : Nat} {s : PlS} (h : PlI g s) (x : Nat) : Sc (s.val x) := by
  unfold PlS.val
  rcases Nat.lt_or_ge x s.vs.length with h1 | h1
  . rw [List.getD_eq_getElem?_getD, List.getElem?_eq_getElem h1]
    exact h.sc _ (List.getElem_mem h1)
  . rw [List.getD_eq_getElem?_getD, List.getElem?_eq_none h1]
    exact zaD
theorem zrI {k : Nat} (h : k < 1000) : fv (zdC k) = k := by
  have e : (u64I (k : Int)).toNat = k := ziX (by omega)
  exact (zcY _).trans e
theorem zrJ : 1000 < RR := by decide +kernel
theorem zdz {k : Nat} (h : k < 1000) : Sc (zdC k) := by
  unfold Sc
  rw [zrI h]
  have := zrJ
  omega
theorem zrK : Sc five := by unfold Sc five; decide +kernel
theorem zgZ : Sc one1 := by unfold Sc one1; decide +kernel
theorem zuN (a : Fr) : Sc (fneg a) := by unfold Sc fneg; rw [zdK]; exact Nat.mod_lt _ (by have := zrJ; omega)
theorem zmR (n : Nat) : Sc (frN (n % RR)) := by unfold Sc; rw [zdK]; exact Nat.mod_lt _ (by have := zrJ; omega)
theorem zg0 (a b : Fr) : Sc (fadd a b) := zmR _
theorem zrL (a b : Fr) : Sc (fmul a b) := zmR _
theorem zuO {V : Int} {x y z : Nat} {k : Fr} (hx : (x : Int) < V) (hy : (y : Int) < V) (hz : (z : Int) < V) (hk : Sc k) : okS V (tMul x y z k) :=
  ⟨⟨by show (1 : Int) <= 2; decide, by show (2 : Int) <= 7; decide⟩, ⟨zgZ, hk, zaD, zuN _, zrK⟩, fun _ => ⟨hx, .inr rfl⟩, fun _ => ⟨hy, .inr rfl⟩, fun _ => ⟨hz, .inr rfl⟩⟩
theorem zrM {V : Int} {z : Nat} (hz : (z : Int) < V) : okS V (ztY z) :=
  ⟨⟨by show (1 : Int) <= 3; decide, by show (3 : Int) <= 7; decide⟩, ⟨zaD, zaD, zaD, zaD, zaD⟩, fun _ => ⟨hz, .inl (show (0 : Int) <= (z : Int) by omega)⟩, fun h => absurd h (by show ¬ ((3 : Int) = 2 \/ (3 : Int) = 5 \/ (3 : Int) = 6); decide), fun h => absurd h (by show ¬ ((3 : Int) = 2 \/ (3 : Int) = 4 \/ (3 : Int) = 5); decide)⟩
theorem zuP {V : Int} {x z : Nat} (hx : (x : Int) < V) (hz : (z : Int) < V) : okS V (tPow x z) :=
  ⟨⟨by show (1 : Int) <= 4; decide, by show (4 : Int) <= 7; decide⟩, ⟨zaD, zaD, zaD, zaD, zaD⟩, fun _ => ⟨hx, .inl (show (0 : Int) <= (x : Int) by omega)⟩, fun h => absurd h (by show ¬ ((4 : Int) = 2 \/ (4 : Int) = 5 \/ (4 : Int) = 6); decide), fun _ => ⟨hz, .inl (show (0 : Int) <= (z : Int) by omega)⟩⟩
theorem zrN {V : Int} {x y z : Nat} (hx : (x : Int) < V) (hy : (y : Int) < V) (hz : (z : Int) < V) : okS V (ztZ x y z) :=
  ⟨⟨by show (1 : Int) <= 5; decide, by show (5 : Int) <= 7; decide⟩, ⟨zaD, zaD, zaD, zaD, zaD⟩, fun _ => ⟨hx, .inl (show (0 : Int) <= (x : Int) by omega)⟩, fun _ => ⟨hy, .inl (show (0 : Int) <= (y : Int) by omega)⟩, fun _ => ⟨hz, .inl (show (0 : Int) <= (z : Int) by omega)⟩⟩
theorem zrO {V : Int} {x z : Nat} (hx : (x : Int) < V) (hz : (z : Int) < V) : okS V (zt0 z x) :=
  ⟨⟨by show (1 : Int) <= 6; decide, by show (6 : Int) <= 7; decide⟩, ⟨zaD, zaD, zaD, zaD, zaD⟩, fun _ => ⟨hz, .inl (show (0 : Int) <= (z : Int) by omega)⟩, fun _ => ⟨hx, .inl (show (0 : Int) <= (x : Int) by omega)⟩, fun h => absurd h (by show ¬ ((6 : Int) = 2 \/ (6 : Int) = 4 \/ (6 : Int) = 5); decide)⟩
theorem zuQ {V : Int} {x : Nat} (hx : (x : Int) < V) : okS V (tPub x) :=
  ⟨⟨by show (1 : Int) <= 7; decide, by show (7 : Int) <= 7; decide⟩, ⟨zaD, zaD, zaD, zaD, zaD⟩, fun _ => ⟨hx, .inl (show (0 : Int) <= (x : Int) by omega)⟩, fun h => absurd h (by show ¬ ((7 : Int) = 2 \/ (7 : Int) = 5 \/ (7 : Int) = 6); decide), fun h => absurd h (by show ¬ ((7 : Int) = 2 \/ (7 : Int) = 4 \/ (7 : Int) = 5); decide)⟩
theorem zz1 {V : Int} {x : Nat} (hx : (x : Int) < V) : okS V (tNo x) :=
  ⟨⟨by show (1 : Int) <= 2; decide, by show (2 : Int) <= 7; decide⟩, ⟨zaD, zgZ, zaD, zuN _, zaD⟩, fun _ => ⟨hx, .inr rfl⟩, fun _ => ⟨show (-5 : Int) < V by omega, .inr rfl⟩, fun _ => ⟨hx, .inr rfl⟩⟩
theorem PlI.two {g : Nat} {s : PlS} (h : PlI g s) (n : Nat) {c : Fr} (hc : Sc c) (t : Stp) (ht : (zb1 t).length <= 2) : PlI (g + 1) (s.two n c t) := by
  refine ⟨?_, ?_, h.p, h.pp, ?_, ?_, ?_, ?_⟩
  . have := h.v2; simp [PlS.two]; omega
  . have := h.v; simp [PlS.two]; omega
  . have := h.r; simp [PlS.two]; omega
  . have := h.m
    unfold PlS.two
    cases eqI t.kind 6 <;> simp <;> omega
  . have := h.st; simp [PlS.two]; omega
  . intro x hx
    simp only [PlS.two, List.mem_append, List.mem_singleton] at hx
    rcases hx with hx | rfl
    . exact h.sc x hx
    . exact hc
theorem Gate.inv {g : Nat} {s s' : PlS} (hg : Gate s s') (h : PlI g s) : PlI (g + 1) s' := by
  cases hg with
  | mul n x y k hx hy hk => exact h.two n (zg0 _ _) _ (show 1 <= 2 by omega)
  | bool n k hk => exact h.two n (zdz (by omega)) _ (show 1 <= 2 by omega)
  | pow n x hx => exact h.two n (zmR _) _ (show 1 <= 2 by omega)
  | next n x y hx hy => exact h.two n (zg0 _ _) _ (show 2 <= 2 by omega)
  | same n x hx => exact h.two n (h.val x) _ (show 0 <= 2 by omega)
  | pub n x hx hp =>
    have := h.v2; have := h.v; have := h.pp; have := h.r; have := h.m; have := h.st
    refine ⟨by simpa using h.v2, by simp only; omega, by simp; omega, by simp; omega, by simp only; omega, by simp only; omega, by simp; omega, h.sc⟩
  | skip n =>
    have := h.v2; have := h.v; have := h.pp; have := h.r; have := h.m; have := h.st
    exact ⟨by simpa using h.v2, by simp only; omega, h.p, h.pp, by simp only; omega, by simp only; omega, by simp only; omega, h.sc⟩
  | no n x hx =>
    have := h.v2; have := h.v; have := h.pp; have := h.r; have := h.m; have := h.st
    refine ⟨by simpa using h.v2, by simp only; omega, h.p, h.pp, ?_, by simp only; omega, by simp; omega, h.sc⟩
    simp only [List.length_append, show (zb1 (tNo x)).length = 1 from rfl]; omega
abbrev Lp95 := (List UInt8) -> Int -> Int -> Int -> Int -> Int -> Int -> Int -> Int -> Fr -> (List Row) -> (List Pr) -> (List Fr) -> (List Fr) -> (List Stp) -> (List Row) -> (List Pr) -> (List Fr) -> (List Fr) -> (List Stp) -> (List Row) -> (List Row) -> (List Pr) -> Option ((Int × Int × List Row × List Pr × List Fr × List Fr × List Stp × Unit) × Unit)
def Lp95.at (A : Lp95) (l : List UInt8) (most g : Int) (s : PlS) : Option ((Int × Int × List Row × List Pr × List Fr × List Fr × List Stp × Unit) × Unit) :=
  A l most g 0 0 0 0 (s.n : Int) (s.vs.length : Int) one1 [] [] [] [] [] [] [] s.pv s.vs s.st s.pb s.rw s.sm
theorem zj4 {N g : Nat} (hN : 100 <= N) (hg : g <= 20) {s : PlS} (h : PlI g s) (n : Nat) {c d : Fr} (hc : Sc c) {t : Stp} (ht : okS ((s.vs.length + 1 : Nat) : Int) t) (h2 : (zb1 t).length <= 2) (h7 : eqI t.kind 7 = false) (h1 : eqI t.kind 1 = false) :
    q187 N 0 0 [] [] s.pv (s.vs ++ [c]) (s.st ++ [svar]) (((s.vs.length + 1 : Nat)) : Int) s.pb s.rw s.sm t d =
      some ((0, 0, [], [], (s.two n c t).pv, (s.two n c t).vs, (s.two n c t).st, ()), (((s.two n c t).vs.length : Int), (s.two n c t).pb, (s.two n c t).rw, (s.two n c t).sm, ()), 0, ()) := by
  have := h.v2; have := h.v; have := h.pp; have := h.p; have := h.r; have := h.m; have := h.st
  rw [zi6 hN ht (by omega) (by omega) (by omega) (by omega) (by simp; omega) (by simp; omega)]
  rw [h7, h1]
  simp only [cond_false, PlS.two, List.length_append, List.length_cons, List.length_nil]
section
variable {N g : Nat} (hN : 2000 <= N) (hg : g <= 14) {s : PlS} (h : PlI g s) (hn : s.n <= 2 + 4 * g) (l : List UInt8) (most : Int) (A : Lp95)
include hN hg h
theorem zt1 (c : Fr) : q185 N 0 0 [] [] s.pv s.vs s.st (s.vs.length : Int) s.pb s.rw s.sm c = some ((0, 0, [], [], s.pv, s.vs ++ [c], s.st ++ [svar], ()), (((s.vs.length + 1 : Nat) : Int), s.pb, s.rw, s.sm, ()), (s.vs.length : Int), ()) := by
  have := h.v2; have := h.v; have := h.pp; have := h.p; have := h.r; have := h.m; have := h.st
  exact zlV (by omega) (by omega) (by omega) (by omega) (by omega) (by omega) c
include hn
theorem zt2 (hlt : (g : Int) < most) (hl : s.n < l.length) : ∃ s', Gate s s' /\ s'.n <= s.n + 4 /\ zjX N A l most (g : Int) 0 0 0 0 (s.n : Int) (s.vs.length : Int) one1 [] [] [] [] [] [] [] s.pv s.vs s.st s.pb s.rw s.sm = Lp95.at A l most ((g + 1 : Nat) : Int) s' := by
  have hv2 := h.v2; have hv := h.v; have hpp := h.pp; have hp3 := h.p; have hr := h.r; have hm := h.m; have hst := h.st
  generalize hx : numX l s.n s.vs.length = x
  have hxl : x < s.vs.length := by rw [← hx]; exact zd5 _ _ (by omega)
  generalize hn1 : numN l s.n = n1
  have hn1' : n1 <= s.n + 1 := by rw [← hn1]; exact zd6 _ _
  generalize hy : numX l n1 s.vs.length = y
  have hyl : y < s.vs.length := by rw [← hy]; exact zd5 _ _ (by omega)
  generalize hn2 : numN l n1 = n2
  have hn2' : n2 <= n1 + 1 := by rw [← hn2]; exact zd6 _ _
  generalize hk : numX l n2 7 = k
  have hk7 : k < 7 := by rw [← hk]; exact zd5 _ _ (by omega)
  generalize hn3 : numN l n2 = n3
  have hn3' : n3 <= n2 + 1 := by rw [← hn3]; exact zd6 _ _
  have e1 : q186 N (s.n : Int) l (s.vs.length : Int) = some (((n1 : Int), ()), (x : Int), ()) := by rw [zd7 (by omega) (by omega), hx, hn1]
  have e2 : q186 N (n1 : Int) l (s.vs.length : Int) = some (((n2 : Int), ()), (y : Int), ()) := by rw [zd7 (by omega) (by omega), hy, hn2]
  have e3 : q186 N (n2 : Int) l 7 = some (((n3 : Int), ()), (k : Int), ()) := by rw [show (7 : Int) = ((7 : Nat) : Int) from rfl, zd7 (by omega) (by omega), hk, hn3]
  have e9 : q186 N (n3 : Int) l 9 = some ((((numN l n3 : Nat) : Int), ()), ((numX l n3 9 : Nat) : Int), ()) := by rw [show (9 : Int) = ((9 : Nat) : Int) from rfl, zd7 (by omega) (by omega)]
  have e22 : q186 N (n3 : Int) l 2 = some ((((numN l n3 : Nat) : Int), ()), ((numX l n3 2 : Nat) : Int), ()) := by rw [show (2 : Int) = ((2 : Nat) : Int) from rfl, zd7 (by omega) (by omega)]
  have hvx : List.getD s.vs x Fr.zero = s.val x := rfl
  have hvy : List.getD s.vs y Fr.zero = s.val y := rfl
  have hf := fun c => zt1 hN hg h c
  unfold zjX
  rw [zaa hlt, cond_true, zaa (by omega), cond_true, e1]
  simp only [bsm]
  rw [e2]
  simp only [bsm]
  rw [zaJ (by omega : (0 : Int) <= (x : Int)), zaa (by omega : (x : Int) < (s.vs.length : Int)), zaJ (by omega : (0 : Int) <= (y : Int)), zaa (by omega : (y : Int) < (s.vs.length : Int))]
  simp only [Bool.and_self, mst2, zag, Int.toNat_natCast]
  rw [e3]
  simp only [bsm, hvx, hvy]
  have hks : k = 0 \/ k = 1 \/ k = 2 \/ k = 3 \/ k = 4 \/ k = 5 \/ k = 6 := by omega
  rcases hks with rfl | rfl | rfl | rfl | rfl | rfl | rfl
  . rw [show eqI ((0 : Nat) : Int) 0 = true from rfl, cond_true, e9]
    simp only [bsm, zlJ]
    have hk9 : numX l n3 9 < 9 := zd5 _ _ (by omega)
    rw [mulR (by omega) (h.val y)]
    simp only [bsm]
    rw [show (Fr.mk (u64I ((numX l n3 9 : Nat) : Int)) 0 0 0) = zdC (numX l n3 9) from rfl, show (Fr.mk 5 0 0 0) = five from rfl, mulR (by omega) (h.val x)]
    simp only [bsm]
    rw [addR (by omega) (zrL _ _) (zrL _ _)]
    simp only [bsm]
    rw [addR (by omega) (zg0 _ _) zrK]
    simp only [bsm]
    rw [hf]
    simp only [bsm]
    rw [zuv (by omega) zgZ]
    simp only [bsm]
    rw [show Stp.mk (2 : Int) (x : Int) (y : Int) (s.vs.length : Int) one1 (zdC (numX l n3 9)) .zero (frN ((RR - fv one1) % RR)) five = tMul x y s.vs.length (zdC (numX l n3 9)) from rfl,
      zj4 (by omega) (by omega) h (numN l n3) (zg0 _ _) (t := tMul x y s.vs.length (zdC (numX l n3 9))) (zuO (by omega) (by omega) (by omega) (zdz (by omega))) (show 1 <= 2 by omega) rfl rfl]
    simp only [bsm]
    rw [zat (by omega)]
    exact ⟨_, .mul (numN l n3) x y _ hxl hyl hk9, by have := zd6 l n3; simp only [PlS.two]; omega, rfl⟩
  . rw [show eqI ((1 : Nat) : Int) 0 = false from rfl, cond_false, show eqI ((1 : Nat) : Int) 1 = true from rfl, cond_true, e22]
    simp only [bsm, zlJ]
    have hk2 : numX l n3 2 < 2 := zd5 _ _ (by omega)
    rw [show (Fr.mk (u64I ((numX l n3 2 : Nat) : Int)) 0 0 0) = zdC (numX l n3 2) from rfl, hf]
    simp only [bsm]
    rw [show Stp.mk (3 : Int) (s.vs.length : Int) 0 0 .zero .zero .zero .zero .zero = ztY s.vs.length from rfl,
      zj4 (by omega) (by omega) h (numN l n3) (zdz (by omega)) (t := ztY s.vs.length) (zrM (by omega)) (show 1 <= 2 by omega) rfl rfl]
    simp only [bsm]
    rw [zat (by omega)]
    exact ⟨_, .bool (numN l n3) _ hk2, by have := zd6 l n3; simp only [PlS.two]; omega, rfl⟩
  . rw [show eqI ((2 : Nat) : Int) 0 = false from rfl, cond_false, show eqI ((2 : Nat) : Int) 1 = false from rfl, cond_false, show eqI ((2 : Nat) : Int) 2 = true from rfl, cond_true]
    rw [zzv (h.val x) (by simp; omega) (by simp)]
    simp only [bsm]
    rw [show lv [(5 : UInt64)] = 5 from rfl, hf]
    simp only [bsm]
    rw [show Stp.mk (4 : Int) (x : Int) 0 (s.vs.length : Int) .zero .zero .zero .zero .zero = tPow x s.vs.length from rfl,
      zj4 (by omega) (by omega) h n3 (zmR _) (t := tPow x s.vs.length) (zuP (by omega) (by omega)) (show 1 <= 2 by omega) rfl rfl]
    simp only [bsm]
    rw [zat (by omega)]
    exact ⟨_, .pow n3 x hxl, by simp only [PlS.two]; omega, rfl⟩
  . rw [show eqI ((3 : Nat) : Int) 0 = false from rfl, cond_false, show eqI ((3 : Nat) : Int) 1 = false from rfl, cond_false, show eqI ((3 : Nat) : Int) 2 = false from rfl, cond_false, show eqI ((3 : Nat) : Int) 3 = true from rfl, cond_true]
    rw [addR (by omega) (h.val x) (h.val y)]
    simp only [bsm]
    rw [hf]
    simp only [bsm]
    rw [show Stp.mk (5 : Int) (x : Int) (y : Int) (s.vs.length : Int) .zero .zero .zero .zero .zero = ztZ x y s.vs.length from rfl,
      zj4 (by omega) (by omega) h n3 (zg0 _ _) (t := ztZ x y s.vs.length) (zrN (by omega) (by omega) (by omega)) (show 2 <= 2 by omega) rfl rfl]
    simp only [bsm]
    rw [zat (by omega)]
    exact ⟨_, .next n3 x y hxl hyl, by simp only [PlS.two]; omega, rfl⟩
  . rw [show eqI ((4 : Nat) : Int) 0 = false from rfl, cond_false, show eqI ((4 : Nat) : Int) 1 = false from rfl, cond_false, show eqI ((4 : Nat) : Int) 2 = false from rfl, cond_false, show eqI ((4 : Nat) : Int) 3 = false from rfl, cond_false, show eqI ((4 : Nat) : Int) 4 = true from rfl, cond_true]
    rw [hf]
    simp only [bsm]
    rw [show Stp.mk (6 : Int) (s.vs.length : Int) (x : Int) 0 .zero .zero .zero .zero .zero = zt0 s.vs.length x from rfl,
      zj4 (by omega) (by omega) h n3 (h.val x) (t := zt0 s.vs.length x) (zrO (by omega) (by omega)) (show 0 <= 2 by omega) rfl rfl]
    simp only [bsm]
    rw [zat (by omega)]
    exact ⟨_, .same n3 x hxl, by simp only [PlS.two]; omega, rfl⟩
  . rw [show eqI ((5 : Nat) : Int) 0 = false from rfl, cond_false, show eqI ((5 : Nat) : Int) 1 = false from rfl, cond_false, show eqI ((5 : Nat) : Int) 2 = false from rfl, cond_false, show eqI ((5 : Nat) : Int) 3 = false from rfl, cond_false, show eqI ((5 : Nat) : Int) 4 = false from rfl, cond_false, show eqI ((5 : Nat) : Int) 5 = true from rfl, cond_true]
    rw [zat (by omega)]
    by_cases hp : s.pv.length < 3
    . rw [zaa (by omega), cond_true]
      rw [show Stp.mk (7 : Int) (x : Int) 0 0 .zero .zero .zero .zero .zero = tPub x from rfl,
        zi6 (s := tPub x) (by omega) (zuQ (by omega)) (by omega) (by rw [show (zb1 (tPub x)).length = 1 from rfl]; omega) (by omega) (by omega) (by omega) (by omega)]
      simp only [bsm]
      rw [zaG (by simp; omega), mst2]
      exact ⟨_, .pub n3 x hxl hp, by simp only; omega, rfl⟩
    . rw [zab (by omega), cond_false]
      exact ⟨_, .skip n3, by simp only; omega, rfl⟩
  . rw [show eqI ((6 : Nat) : Int) 0 = false from rfl, cond_false, show eqI ((6 : Nat) : Int) 1 = false from rfl, cond_false, show eqI ((6 : Nat) : Int) 2 = false from rfl, cond_false, show eqI ((6 : Nat) : Int) 3 = false from rfl, cond_false, show eqI ((6 : Nat) : Int) 4 = false from rfl, cond_false, show eqI ((6 : Nat) : Int) 5 = false from rfl, cond_false]
    rw [zuv (by omega) zgZ]
    simp only [bsm]
    rw [show Stp.mk (2 : Int) (x : Int) (-5) (x : Int) .zero one1 .zero (frN ((RR - fv one1) % RR)) .zero = tNo x from rfl,
      zi6 (s := tNo x) (by omega) (zz1 (by omega)) (by omega) (by rw [show (zb1 (tNo x)).length = 1 from rfl]; omega) (by omega) (by omega) (by omega) (by omega)]
    simp only [bsm]
    rw [zat (by omega)]
    exact ⟨_, .no n3 x hxl, by simp only; omega, rfl⟩
end
end
section
inductive Plays : PlS -> PlS -> Prop
  | refl (s : PlS) : Plays s s
  | step {s t u : PlS} : Gate s t -> Plays t u -> Plays s u
def PlS.res (s : PlS) : (Int × Int × List Row × List Pr × List Fr × List Fr × List Stp × Unit) := ((s.pb.length : Int), (s.vs.length : Int), s.pb ++ s.rw, s.sm, s.pv, s.vs, s.st, ())
theorem zuR {N g : Nat} (hg : g <= 14) {s : PlS} (h : PlI g s) {R : Type} (f : (((Int × List Row × List Row × Unit) × Nat) × (Int × Int × List Row × List Pr × Unit) × Unit) -> Option R) :
    Option.bind (q118 N (s.vs.length : Int) s.pb s.rw s.sm) f = f ((((s.vs.length : Int), s.pb, s.rw, ()), s.sm.length), ((s.pb.length : Int), (s.vs.length : Int), s.pb ++ s.rw, s.sm, ()), ()) := by
  have hpp := h.pp; have hp3 := h.p; have hr := h.r
  unfold q118
  rw [zaG (by omega), zaG (by omega), mst2, mst2, bsm]
theorem zrP {N most : Nat} (hN : 2000 <= N) (hmo : most <= 14) (l : List UInt8) : ∀ (k g f : Nat) (s : PlS), PlI g s -> s.n <= 2 + 4 * g -> g + k = most -> k < f ->
    ∃ s' g', g' <= most /\ Plays s s' /\ PlI g' s' /\ zlS N f l (most : Int) (g : Int) 0 0 0 0 (s.n : Int) (s.vs.length : Int) one1 [] [] [] [] [] [] [] s.pv s.vs s.st s.pb s.rw s.sm = some (s'.res, ())
  | 0, g, f + 1, s, h, hn, hk, hf => by
    refine ⟨s, g, by omega, .refl s, h, ?_⟩
    rw [zic]
    unfold zjX
    rw [zab (by omega), cond_false, zuR (by omega) h]
    rfl
  | k + 1, g, f + 1, s, h, hn, hk, hf => by
    rw [zic]
    by_cases hl : s.n < l.length
    . obtain ⟨t, hg, hn', e⟩ := zt2 hN (by omega) h hn l (most : Int) (zlS N f) (by omega) hl
      obtain ⟨s', g', q0, q1, q2, q3⟩ := zrP hN hmo l k (g + 1) f t (hg.inv h) (by omega) (by omega) (by omega)
      exact ⟨s', g', q0, .step hg q1, q2, e.trans q3⟩
    . refine ⟨s, g, by omega, .refl s, h, ?_⟩
      unfold zjX
      rw [zaa (by omega), cond_true, zab (by omega), cond_false, zuR (by omega) h]
      rfl
def zlW (n a b : Nat) : PlS := ⟨n, [], [zdC a, zdC b], [svar, svar], [], [], []⟩
theorem zj5 {n a b : Nat} (ha : a < 200) (hb : b < 2) : PlI 0 (zlW n a b) :=
  ⟨Nat.le_refl 2, Nat.le_refl 2, Nat.zero_le _, rfl, Nat.le_refl 0, Nat.le_refl 0, Nat.le_refl 2, fun x hx => by
    simp only [zlW, List.mem_cons, List.not_mem_nil, or_false] at hx
    rcases hx with rfl | rfl
    . exact zdz (by omega)
    . exact zdz (by omega)⟩
theorem zz2 {N most : Nat} (hN : 2000 <= N) (hmo : most <= 14) (l : List UInt8) :
    ∃ n a b s g, a < 200 /\ b < 2 /\ g <= most /\ Plays (zlW n a b) s /\ PlI g s /\ q95 N l (most : Int) = some (s.res, ()) := by
  have e1 : q186 N 0 l 200 = some ((((numN l 0 : Nat) : Int), ()), ((numX l 0 200 : Nat) : Int), ()) := zd7 (n := 0) (m := 200) (by omega) (by omega)
  have hn1 := zd6 l 0
  have e2 : q186 N ((numN l 0 : Nat) : Int) l 2 = some ((((numN l (numN l 0) : Nat) : Int), ()), ((numX l (numN l 0) 2 : Nat) : Int), ()) := zd7 (m := 2) (by omega) (by omega)
  have hn2 := zd6 l (numN l 0)
  have ha : numX l 0 200 < 200 := zd5 _ _ (by omega)
  have hb : numX l (numN l 0) 2 < 2 := zd5 _ _ (by omega)
  have f1 := fun c => zlV (N := N) (by omega) (pb := []) (rw := []) (sm := []) (pv := []) (vs := []) (st := []) (by simp) (by simp) (by simp) (by simp) (by simp) c
  have f2 := fun c d => zlV (N := N) (by omega) (pb := []) (rw := []) (sm := []) (pv := []) (vs := [c]) (st := [svar]) (by simp) (by simp) (by simp) (by simp) (by simp) d
  obtain ⟨s, g, q0, q1, q2, q3⟩ := zrP hN hmo l most 0 N (zlW (numN l (numN l 0)) (numX l 0 200) (numX l (numN l 0) 2)) (zj5 ha hb) (by simp only [zlW]; omega) (by omega) (by omega)
  refine ⟨_, _, _, s, g, ha, hb, q0, q1, q2, ?_⟩
  unfold q95
  simp only [zlJ, bsm]
  rw [e1]
  simp only [bsm]
  rw [show q185 N 0 0 [] [] [] [] [] 0 [] [] [] (Fr.mk (u64I ((numX l 0 200 : Nat) : Int)) 0 0 0) = _ from f1 (zdC (numX l 0 200))]
  simp only [bsm]
  rw [e2]
  simp only [bsm]
  rw [show q185 N 0 0 [] [] [] ([] ++ [zdC (numX l 0 200)]) ([] ++ [svar]) (((([] : List Fr).length + 1 : Nat)) : Int) [] [] [] (Fr.mk (u64I ((numX l (numN l 0) 2 : Nat) : Int)) 0 0 0) = _ from f2 (zdC (numX l 0 200)) (zdC (numX l (numN l 0) 2))]
  simp only [bsm]
  exact q3
def zj6 (V : Int) (r : Row) : Prop := bigR r = false /\ unkR V r = false /\ lowR r = false
theorem zj7 {x : Fr} (h : Sc x) : bg x = false := by unfold bg; unfold Sc at h; rw [decide_eq_true h]; rfl
theorem zdA {V : Int} {r : Row} (h0 : Sc r.q0) (h1 : Sc r.q1) (h2 : Sc r.q2) (h3 : Sc r.q3) (h4 : Sc r.q4) (h5 : Sc r.q5) (h6 : Sc r.q6) (h7 : Sc r.q7) (w0 : -1 <= r.w0 /\ r.w0 < V) (w1 : -1 <= r.w1 /\ r.w1 < V) (w2 : -1 <= r.w2 /\ r.w2 < V) : zj6 V r := by
  refine ⟨?_, ?_, ?_⟩
  . unfold bigR
    rw [zj7 h0, zj7 h1, zj7 h2, zj7 h3, zj7 h4, zj7 h5, zj7 h6, zj7 h7]
    rfl
  . unfold unkR
    rw [zap (by omega), zap (by omega), zap (by omega)]
    rfl
  . unfold lowR
    rw [zab (by omega), zab (by omega), zab (by omega)]
    rfl
theorem zwX {V v : Int} (hV : 0 <= V) (h : v < V) : -1 <= mxI v (-1) /\ mxI v (-1) < V := by
  unfold mxI
  by_cases h1 : v < -1
  . rw [zaa h1, cond_true]; omega
  . rw [zab h1, cond_false]; omega
theorem ze6 {V : Int} (hV : 0 <= V) {s : Stp} (h : okS V s) : ∀ r ∈ zb1 s, zj6 V r := by
  obtain ⟨k, v0, v1, v2, q0, q1, q2, q3, q4⟩ := s
  obtain ⟨⟨k1, k2⟩, ⟨a0, a1, a2, a3, a4⟩, b0, b1, b2⟩ := h
  simp only at k1 k2 b0 b1 b2 a0 a1 a2 a3 a4
  have hk : k = 1 \/ k = 2 \/ k = 3 \/ k = 4 \/ k = 5 \/ k = 6 \/ k = 7 := by omega
  have z := zaD
  have o := zgZ
  have m : -1 <= (-1 : Int) /\ (-1 : Int) < V := by omega
  intro r hr
  rcases hk with rfl | rfl | rfl | rfl | rfl | rfl | rfl
  . cases (show r ∈ ([] : List Row) from hr)
  . have hr : r ∈ [Row.mk q0 q1 q2 q3 q4 .zero .zero .zero (mxI v0 (-1)) (mxI v1 (-1)) (mxI v2 (-1))] := hr
    rw [List.mem_singleton] at hr; subst hr
    exact zdA a0 a1 a2 a3 a4 z z z (zwX hV (b0 (by omega)).1) (zwX hV (b1 (by omega)).1) (zwX hV (b2 (by omega)).1)
  . have hr : r ∈ [Row.mk .zero .zero .zero .zero .zero one1 .zero .zero v0 (-1) (-1)] := hr
    rw [List.mem_singleton] at hr; subst hr
    have := b0 (by omega)
    unfold okV at this
    exact zdA z z z z z o z z (by simp only; omega) m m
  . have hr : r ∈ [Row.mk .zero .zero .zero .zero .zero .zero one1 .zero v0 (-1) v2] := hr
    rw [List.mem_singleton] at hr; subst hr
    have h0 := b0 (by omega)
    have h2 := b2 (by omega)
    unfold okV at h0 h2
    exact zdA z z z z z z o z (by simp only; omega) m (by simp only; omega)
  . have hr : r ∈ [Row.mk .zero .zero .zero .zero .zero .zero .zero one1 v0 v1 (-1), Row.mk .zero .zero .zero .zero .zero .zero .zero .zero v2 (-1) (-1)] := hr
    have h0 := b0 (by omega)
    have h1 := b1 (by omega)
    have h2 := b2 (by omega)
    unfold okV at h0 h1 h2
    simp only [List.mem_cons, List.not_mem_nil, or_false] at hr
    rcases hr with rfl | rfl
    . exact zdA z z z z z z z o (by simp only; omega) (by simp only; omega) m
    . exact zdA z z z z z z z z (by simp only; omega) m m
  . cases (show r ∈ ([] : List Row) from hr)
  . have hr : r ∈ [Row.mk .zero ⟨1, 0, 0, 0⟩ .zero .zero .zero .zero .zero .zero v0 (-1) (-1)] := hr
    rw [List.mem_singleton] at hr; subst hr
    have := b0 (by omega)
    unfold okV at this
    exact zdA z o z z z z z z (by simp only; omega) m m
theorem zj6.mono {V W : Int} (h : V <= W) {r : Row} (hr : zj6 V r) : zj6 W r := by
  obtain ⟨a, b, c⟩ := hr
  refine ⟨a, ?_, c⟩
  unfold unkR at b ⊢
  simp only [Bool.or_eq_false_iff] at b
  obtain ⟨⟨b0, b1⟩, b2⟩ := b
  have := of_decide_eq_false b0
  have := of_decide_eq_false b1
  have := of_decide_eq_false b2
  rw [zap (by omega), zap (by omega), zap (by omega)]
  rfl
structure GdI (s : PlS) : Prop where
  pb : ∀ r ∈ s.pb, ∃ x : Nat, x < s.vs.length /\ r = zdo x
  rw : ∀ r ∈ s.rw, zj6 (s.vs.length : Int) r
  sm : ∀ p ∈ s.sm, (0 <= p.x /\ p.x < (s.vs.length : Int)) /\ 0 <= p.y /\ p.y < (s.vs.length : Int)
theorem GdI.two {s : PlS} (h : GdI s) (n : Nat) (c : Fr) {t : Stp} (ht : okS ((s.vs.length + 1 : Nat) : Int) t) : GdI (s.two n c t) := by
  have hl : (s.two n c t).vs.length = s.vs.length + 1 := by simp [PlS.two]
  refine ⟨fun r hr => ?_, fun r hr => ?_, fun p hp => ?_⟩
  . obtain ⟨x, hx, e⟩ := h.pb r hr
    exact ⟨x, by omega, e⟩
  . rw [hl]
    simp only [PlS.two, List.mem_append] at hr
    rcases hr with hr | hr
    . exact (h.rw r hr).mono (by omega)
    . exact ze6 (by omega) ht r hr
  . rw [hl]
    have old : ∀ p ∈ s.sm, (0 <= p.x /\ p.x < ((s.vs.length + 1 : Nat) : Int)) /\ 0 <= p.y /\ p.y < ((s.vs.length + 1 : Nat) : Int) := fun p hp => by
      have := h.sm p hp
      omega
    simp only [PlS.two] at hp
    cases h6 : eqI t.kind 6 with
    | false => rw [h6] at hp; exact old p hp
    | true =>
      rw [h6] at hp
      simp only [cond_true, List.mem_append, List.mem_singleton] at hp
      rcases hp with hp | rfl
      . exact old p hp
      . have h6 : t.kind = 6 := of_decide_eq_true h6
        obtain ⟨_, _, b0, b1, _⟩ := ht
        have h0 := b0 (by omega)
        have h1 := b1 (by omega)
        unfold okV at h0 h1
        simp only
        omega
theorem Gate.good {g : Nat} {s s' : PlS} (hg : Gate s s') (hi : PlI g s) (h : GdI s) : GdI s' := by
  cases hg with
  | mul n x y k hx hy hk => exact h.two n _ (zuO (by omega) (by omega) (by omega) (zdz (by omega)))
  | bool n k hk => exact h.two n _ (zrM (by omega))
  | pow n x hx => exact h.two n _ (zuP (by omega) (by omega))
  | next n x y hx hy => exact h.two n _ (zrN (by omega) (by omega) (by omega))
  | same n x hx => exact h.two n _ (zrO (by omega) (by omega))
  | pub n x hx hp =>
    refine ⟨fun r hr => ?_, h.rw, h.sm⟩
    simp only [List.mem_append, List.mem_singleton] at hr
    rcases hr with hr | rfl
    . exact h.pb r hr
    . exact ⟨x, hx, rfl⟩
  | skip n => exact ⟨h.pb, h.rw, h.sm⟩
  | no n x hx =>
    refine ⟨h.pb, fun r hr => ?_, h.sm⟩
    simp only [List.mem_append] at hr
    rcases hr with hr | hr
    . exact h.rw r hr
    . exact ze6 (V := (s.vs.length : Int)) (by omega) (zz1 (by omega)) r hr
theorem Plays.keep {P : PlS -> Prop} (hP : ∀ g s s', PlI g s -> Gate s s' -> P s -> P s') : ∀ {s s' : PlS}, Plays s s' -> ∀ g, PlI g s -> P s -> P s' := by
  intro s s' h
  induction h with
  | refl s => exact fun _ _ h => h
  | step h1 _ ih => exact fun g hi h => ih (g + 1) (h1.inv hi) (hP g _ _ hi h1 h)
theorem zt3 {V : Int} {x : Nat} (h : (x : Int) < V) : zj6 V (zdo x) := ze6 (by omega) (zuQ h) _ (List.mem_singleton.2 rfl)
theorem znN (r : Row) : zbd r r = true := by
  unfold zbd
  simp [eqI]
theorem znO {x : Nat} : zfx (zdo x) = false := by
  unfold zfx
  rw [show (zdo (x : Int)).w0 = (x : Int) from rfl, zab (by omega), znN]
  rfl
theorem zmS {P : Int} : ∀ (l : List Row) (i : Nat), (∀ r ∈ l, lowR r = false) -> (∀ (j : Nat) (r : Row), l[j]? = some r -> ((i + j : Nat) : Int) < P -> zfx r = false) -> zfB P i l = false
  | [], _, _, _ => rfl
  | r :: l, i, h1, h2 => by
    unfold zfB
    rw [h1 r List.mem_cons_self, zmS l (i + 1) (fun r hr => h1 r (List.mem_cons_of_mem _ hr)) fun j x hx hj => h2 (j + 1) x (by simpa using hx) (by omega)]
    by_cases hi : (i : Int) < P
    . rw [h2 0 r rfl (by simpa using hi)]
      cases ltI (i : Int) P <;> rfl
    . rw [zab hi]; rfl
theorem zt4 {g : Nat} {s : PlS} (hi : PlI g s) (hg : g <= 14) (h : GdI s) : GoodCirc (s.pb.length : Int) (s.vs.length : Int) (s.pb ++ s.rw) s.sm := by
  have hv2 := hi.v2; have hv := hi.v; have hpp := hi.pp; have hp3 := hi.p; have hr := hi.r; have hm := hi.m
  have hall : ∀ r ∈ s.pb ++ s.rw, zj6 (s.vs.length : Int) r := fun r hr => by
    rcases List.mem_append.1 hr with hr | hr
    . obtain ⟨x, hx, rfl⟩ := h.pb r hr
      exact zt3 (by omega)
    . exact h.rw r hr
  refine ⟨by omega, by omega, by omega, by omega, by simp; omega, by omega, by simp; omega, ?_, ?_, ?_, ?_⟩
  . exact List.any_eq_false.2 fun r hr => by rw [(hall r hr).1]; simp
  . exact List.any_eq_false.2 fun r hr => by rw [(hall r hr).2.1]; simp
  . refine List.any_eq_false.2 fun p hp => ?_
    have := h.sm p hp
    unfold unkP
    rw [zab (by omega), zap (by omega), zab (by omega), zap (by omega)]
    simp
  . refine zmS _ _ (fun r hr => (hall r hr).2.2) fun j r hr hj => ?_
    have hlt : j < s.pb.length := by omega
    rw [List.getElem?_append_left hlt] at hr
    obtain ⟨x, hx, rfl⟩ := h.pb r (List.mem_of_getElem? hr)
    exact znO
theorem znP (n a b : Nat) : GdI (zlW n a b) := ⟨fun r h => (by cases h), fun r h => (by cases h), fun p h => (by cases h)⟩
theorem zt5 {N most : Nat} (hN : 2000 <= N) (hmo : most <= 14) (l : List UInt8) :
    ∃ n a b s g, a < 200 /\ b < 2 /\ g <= most /\ Plays (zlW n a b) s /\ PlI g s /\ GdI s /\ GoodCirc (s.pb.length : Int) (s.vs.length : Int) (s.pb ++ s.rw) s.sm /\ q95 N l (most : Int) = some (s.res, ()) := by
  obtain ⟨n, a, b, s, g, ha, hb, hg, hp, hi, e⟩ := zz2 hN hmo l
  have hgood : GdI s := Plays.keep (P := GdI) (fun g s s' hi hg h => hg.good hi h) hp 0 (zj5 ha hb) (znP n a b)
  exact ⟨n, a, b, s, g, ha, hb, hg, hp, hi, hgood, zt4 hi (by omega) hgood, e⟩
end
section
theorem zrQ {N : Nat} (c0 v1 : Int) (v2 : List Row) (v3 : List Pr) : ∀ (d k f : Nat), 1 <= k -> k + d = 6 -> d < f -> ∃ L : Nat, k <= L /\ L <= 6 /\ (v2.length <= 2 ^ L \/ L = 6) /\ zid N f (k : Int) c0 v1 v2 v3 = some ((L : Int), ())
  | 0, k, f + 1, h1, h2, h3 => by
    refine ⟨k, Nat.le_refl _, by omega, .inr (by omega), ?_⟩
    rw [zd4]
    unfold zgX
    rw [zab (by omega), cond_false]
  | d + 1, k, f + 1, h1, h2, h3 => by
    by_cases hl : 2 ^ k < v2.length
    . obtain ⟨L, a, b, c, e⟩ := zrQ (N := N) c0 v1 v2 v3 d (k + 1) f (by omega) (by omega) (by omega)
      refine ⟨L, by omega, b, c, ?_⟩
      rw [zd4]
      unfold zgX
      rw [zaa (by omega), cond_true, zaJ (by omega), mst2, zaa (by omega : (k : Int) < 18446744073709551616), mst2, sh1' (by omega), zaa (by omega), cond_true, zat (by omega)]
      exact e
    . refine ⟨k, Nat.le_refl _, by omega, .inl (by omega), ?_⟩
      rw [zd4]
      unfold zgX
      rw [zaa (by omega), cond_true, zaJ (by omega), mst2, zaa (by omega : (k : Int) < 18446744073709551616), mst2, sh1' (by omega), zab (by omega), cond_false]
theorem zwY {N : Nat} (hN : 100 <= N) (c0 v1 : Int) {v2 : List Row} (v3 : List Pr) (h : v2.length <= 64) : ∃ L : Nat, 1 <= L /\ L <= 6 /\ v2.length <= 2 ^ L /\ q121 N c0 v1 v2 v3 = some ((L : Int), ()) := by
  obtain ⟨L, a, b, c, e⟩ := zrQ (N := N) c0 v1 v2 v3 5 1 N (by omega) (by omega) (by omega)
  refine ⟨L, a, b, ?_, e⟩
  rcases c with c | rfl
  . exact c
  . omega
theorem zz3 {N : Nat} (hN : 2000 <= N) (a b c : List Int) (ha : a.length < 2000) (hb : b.length < 2000) (hc : c.length < 2000) : zck N N true 0 a b c a b c = some (true, ()) := by
  obtain ⟨n, hn⟩ : ∃ n, N = n + 1 + 1 + 1 + 1 := ⟨N - 4, by omega⟩
  have e : ∀ M, M = n + 1 + 1 + 1 + 1 -> zck N M true 0 a b c a b c = some (true, ()) := by
    rintro M rfl
    have s0 : zck N (n + 1 + 1 + 1 + 1) true 0 a b c a b c = zck N (n + 1 + 1 + 1) true 1 a b c a b c := by
      rw [zc0]
      unfold zfw
      rw [zaa (by omega : (0 : Int) < 3), cond_true, zeE hN a ha]
      rfl
    have s1 : zck N (n + 1 + 1 + 1) true 1 a b c a b c = zck N (n + 1 + 1) true 2 a b c a b c := by
      rw [zc0]
      unfold zfw
      rw [zaa (by omega : (1 : Int) < 3), cond_true, zeE hN b hb]
      rfl
    have s2 : zck N (n + 1 + 1) true 2 a b c a b c = zck N (n + 1) true 3 a b c a b c := by
      rw [zc0]
      unfold zfw
      rw [zaa (by omega : (2 : Int) < 3), cond_true, zeE hN c hc]
      rfl
    rw [s0, s1, s2, zc0]
    unfold zfw
    rw [zab (by omega), cond_false]
  exact e N hn
theorem zg1 (l : List UInt8) (more : UInt8) : q33 100000 l more = some (true, ()) := by
  unfold q33
  rw [zwS]
  simp only [bsm]
  rw [Bool.not_true, cond_false]
  cases hlen : ltI 80 (l.length : Int)
  case true => rfl
  obtain ⟨n, a, b, s, g, ha, hb, hg, hp, hi, hgd, hgc, e⟩ := zt5 (N := 100000) (most := 14) (by omega) (by omega) l
  rw [cond_false, show ((14 : Nat) : Int) = (14 : Int) from rfl] at *
  rw [e]
  simp only [bsm, PlS.res]
  obtain ⟨L, h1, h6, hr, eL⟩ := zwY (N := 100000) (by omega) (s.pb.length : Int) (s.vs.length : Int) s.sm hgc.rows
  rw [eL]
  simp only [bsm]
  generalize wr ((L : Int) + ((more % 2).toNat : Int)) = log
  have hV := hgc.v200
  have hmay : q119 100000 (s.pb.length : Int) (s.vs.length : Int) (s.pb ++ s.rw) s.sm = some (0, ()) := by
    rw [zrz (by omega) _ _ _ _ (by have := hgc.rows; omega) (by have := hgc.same; omega), hgc.may]
  obtain ⟨cl, e4, e5, gc, fc⟩ := zia (c0 := (s.pb.length : Int)) (v2 := s.pb ++ s.rw) (hgc.pairs (V := s.vs.length) rfl) (by have := hgc.same; omega) (by omega) (by omega : 100000 <= 100000) hmay
  obtain ⟨r, r1, r2, r3⟩ := ztX (by omega : 100000 <= 100000) hgc log
  rw [r1, r2, e4, e5]
  simp only [bsm]
  rw [zeE (by omega) cl (by rw [gc.len]; omega)]
  simp only [bsm, cond_true]
  rw [zaV rfl]
  have hl : r.1.1.length < 2000 /\ r.1.2.1.length < 2000 /\ r.1.2.2.1.length < 2000 := by
    rcases r3 with h | ⟨L, _, _, h6, _, _, ⟨a, b, c⟩, _⟩
    . rw [h]; exact ⟨by simp, by simp, by simp⟩
    . have := zbM h6
      exact ⟨by omega, by have := b (by omega); omega, by have := c (by omega); omega⟩
  exact zz3 (by omega) _ _ _ hl.1 hl.2.1 hl.2.2
end
section
open Go.ChangeShapes Go.WideShapes Go.ChangeAt Go.RowKit
def zrR (P : Program) (k : K) (t : TypeId) : Prop :=
  ∀ (H : Type) (enc : TypeId × Value -> H) (W : World) (base : Nat) (v : Value) (d : DataW H) (p : List MemPlace), Value.okWide P W .any base t v -> DataW.Trod enc P W 0 (fun _ => true) true t v d p ->
    ∃ x : k.T, zho W (fun b => b < W.heap.size) (k.enc x) v
theorem zg2 {P : Program} {H : Type} {enc : TypeId × Value -> H} {W : World} {base : Nat} {sp : Nat -> Bool} {hd : Bool} : ∀ {ts : List TypeId} {vs : List Value} {ds : List (DataW H)} {p : List MemPlace}, DataW.TrodAll enc P W base sp hd ts vs ds p -> ds.length = ts.length
  | [], [], [], _, _ => rfl
  | _ :: _, _ :: _, _ :: _, _, ⟨_, _, _, h, _⟩ => by simp [zg2 h]
  | [], _ :: _, _, _, h => by cases h
  | [], [], _ :: _, _, h => by cases h
  | _ :: _, [], _, _, h => by cases h
  | _ :: _, _ :: _, [], _, h => by cases h
theorem zz4 {k : IntKind} {n : Int} {P : Program} {W : World} {t : TypeId} {v : Value} {base : Nat} {H : Type} {enc : TypeId × Value -> H} {d : DataW H} {p : List MemPlace} (ht : P.underlying t = some (.int k)) (hv : Value.okWide P W .any base t v) (h : DataW.Trod enc P W 0 (fun _ => true) true t v d p) :
    ∃ n, v = .int k n /\ (Lit.int k n).wf = true := by
  obtain ⟨n, h1, _, _, h4⟩ := open_int ht hv h
  exact ⟨n, h1, h4⟩
theorem zt6 {P : Program} {t : TypeId} (ht : P.underlying t = some (.int .u8)) : zrR P K.u8 t := fun H enc W base v d p hv h => by
  obtain ⟨n, rfl, hw⟩ := zz4 (n := 0) ht hv h
  have := bounds_u8 hw
  refine ⟨UInt8.ofNat n.toNat, .sc ?_⟩
  simp only [C.val, Option.some.injEq, Value.int.injEq, true_and]
  rw [UInt8.toNat_ofNat']
  omega
structure NumEl where
  e : El
  k : IntKind
  of : Int -> e.T
  one : e.size = 1
  val : ∀ n, (Lit.int k n).wf = true -> ∃ c, e.toC (of n) = [c] /\ c.val = some (.int k n)
def zBX : NumEl := ⟨.u8, .u8, fun n => UInt8.ofNat n.toNat, rfl, fun n hw => ⟨_, rfl, by
  have := bounds_u8 hw
  simp only [C.val, Option.some.injEq, Value.int.injEq, true_and]
  rw [UInt8.toNat_ofNat']
  omega⟩⟩
theorem zj8 (m : NumEl) (zs : List Int) (hw : ∀ n ∈ zs, (Lit.int m.k n).wf = true) (j : Nat) (c : C) (h : (flat m.e (zs.map m.of))[j]? = some c) : j < zs.length /\ c.val = some (.int m.k (zs.getD j 0)) := by
  induction zs generalizing j with
  | nil => simp [flat] at h
  | cons z zs ih =>
    obtain ⟨c0, h1, h2⟩ := m.val z (hw z (by simp))
    simp only [List.map_cons, flat, h1] at h
    cases j with
    | zero =>
      simp at h
      subst h
      exact ⟨by simp, by simpa using h2⟩
    | succ j =>
      simp at h
      obtain ⟨h3, h4⟩ := ih (fun n hn => hw n (by simp [hn])) j h
      exact ⟨by simpa using h3, by simpa using h4⟩
theorem zlX {P : Program} {t e : TypeId} (m : NumEl) (ht : P.underlying t = some (.slice e)) (he : P.underlying e = some (.int m.k)) (hc : P.cellsOf e = 1) : zrR P (K.ro m.e) t := fun H enc W base v d p hv h => by
  obtain ⟨ad, n, c, rfl⟩ := okWide_slice ht hv
  obtain ⟨fuel, hf⟩ := h
  rcases open_ints ht he hc hf with ⟨hcs, _⟩ | ⟨a, len, cap, zs, hcs, _, h1, h2, h3, _, h5, h6⟩
  . simp [Value.cells] at hcs
    obtain ⟨rfl, rfl, rfl⟩ := hcs
    exact ⟨[], .emp⟩
  . simp [Value.cells] at hcs
    obtain ⟨rfl, rfl, rfl⟩ := hcs
    simp only [if_true] at h3
    cases hn : n with
    | zero => exact ⟨[], .emp⟩
    | succ n' =>
      have hlen : ((zs.take n).map m.of).length = n := by simp; omega
      have h0 := h5 0 (by omega)
      have hspot : a.spot = none /\ a.block < W.heap.size := by
        have e0 : a.add 0 = a := by simp [Addr.add]
        rw [e0] at h0
        unfold World.cell? at h0
        split at h0
        . rename_i cs _ _ hb
          refine ⟨?_, (Array.getElem?_eq_some_iff.1 hb).1⟩
          cases hs : a.spot with
          | none => rfl
          | some q => rw [hs] at h0; simp at h0
        . cases h0
      obtain ⟨b, off, spot⟩ := a
      obtain ⟨hs, hb⟩ := hspot
      simp only at hs hb
      subst hs
      have hw : ∀ z ∈ zs.take n, (Lit.int m.k z).wf = true := fun z hz => h6 z (List.mem_of_mem_take hz)
      refine ⟨(zs.take n).map m.of, ?_⟩
      have := Holds.ro (w := W) (ok := fun b => b < W.heap.size) (e := m.e) (l := (zs.take n).map m.of) (b := b) (off := off) (cap := c) (fun j => .int m.k (zs.getD j 0)) (by rw [hlen]; exact h1) h2 hb (fun j c' hj => ?_) (fun j c' hj => ?_)
      . rw [hlen] at this
        rw [← hn]
        exact this
      . obtain ⟨q1, q2⟩ := zj8 m _ hw j c' hj
        have := h5 j (by rw [List.length_take] at q1; omega)
        rw [zaU] at this
        exact this
      . obtain ⟨q1, q2⟩ := zj8 m _ hw j c' hj
        rw [List.length_take] at q1
        refine .sc ?_
        rw [q2]
        congr 2
        simp only [List.getD_eq_getElem?_getD, List.getElem?_take]
        rw [if_pos (by omega)]
theorem zt7 {P : Program} (hlaid : laidOutB P = true) {H : Type} {enc : TypeId × Value -> H} {fn : Func} {s : ChangeSpec} {apart fresh : Bool} {W W' : World} {args : Array Value} {ds gs : List (DataW H)} {before : List MemPlace} {tb : TypeId}
    (hread : ∀ t ∈ fn.params.toList, P.readableRec t = true /\ t < P.types.size) (hvars : s.vars = []) (hres : fn.resultTypes = #[tb]) (htb : P.underlying tb = some .bool)
    (hspec : s.fn H (ds ++ []) = { results := [.lit (.bool true)], args := ds })
    (hW : DataW.Whole enc P fn.params.toList s.vars apart W args.toList ds gs before) (hk : Kept W W') : s.post enc P fn apart fresh false false W args (.bool true) W' := by
  have hW' := hW
  obtain ⟨p, q, hA, hV, rfl, hz, hn⟩ := hW'
  rw [hvars] at hV
  obtain ⟨rfl, rfl⟩ := trodVars_none hV
  have hlt : ∀ x ∈ p, x.block < W.heap.size := fun x hx => hW.lt x (by simp [hx])
  have hbelow : Below W.heap.size W W' := ⟨hk.os, hk.tape, hk.output, hk.size, hk.block⟩
  have hargs : ∀ {ts : List TypeId} {vs : List Value} {ds : List (DataW H)} {p : List MemPlace}, (∀ t ∈ ts, P.readableRec t = true /\ t < P.types.size) -> DataW.TrodAll enc P W 0 (fun _ => true) true ts vs ds p -> (∀ x ∈ p, x.block < W.heap.size) ->
      DataW.TrodAll enc P W' 0 (fun b => decide (b < W.heap.size)) true ts vs ds p := by
    intro ts
    induction ts with
    | nil => intro vs ds p _ h _; cases vs <;> cases ds <;> first | exact h | exact h.elim
    | cons t ts ih =>
      intro vs ds p hr h hl
      cases vs with
      | nil => cases ds <;> exact h.elim
      | cons v vs => cases ds with
        | nil => exact h.elim
        | cons d ds =>
          obtain ⟨p1, q1, h1, h2, rfl⟩ := h
          exact ⟨p1, q1, Below.trod hlaid (hr t (by simp)).1 (hr t (by simp)).2 h1 hbelow (fun x hx => hl x (by simp [hx])), ih (fun t ht => hr t (by simp [ht])) h2 (fun x hx => hl x (by simp [hx])), rfl⟩
  have hkeep : W.keptBut W' (fun _ => False) := by
    refine ⟨hk.os, hk.output, fun i hi => ?_⟩
    rw [hk.block i hi]
    cases hb : W.heap[i]? with
    | none => trivial
    | some o => cases o <;> simp
  refine ⟨ds, [], p ++ [], [], p, [], hW, ?_, ?_, ?_, World.keptBut_mono (fun _ h => h.elim) hkeep, fun h => by cases h⟩
  . rw [hspec, hres]
    refine ⟨[], [], ⟨1, ?_⟩, rfl, rfl⟩
    simp [DataW.trod, htb, Value.cells, Value.resultList]
  . rw [hspec]
    exact hargs hread hA hlt
  . rw [hspec, hvars]
    rfl
end
section
open Go.ChangeShapes Go.WideShapes Go.ChangeAt Go.RowKit
theorem own : ownKnob Try.prog.godebug = none := by kernel_rfl
theorem laid : laidOutB Try.pinned.checked.prog = true := by kernel_rfl
theorem zBY : mapsRowed Try.pinned.checked.prog = true := by kernel_rfl
theorem zBZ : Try.pinned.checked.prog.stopsHeard = true := by kernel_rfl
theorem znQ : Try.pinned.checked.prog.mayEnter = true := znU
theorem zwZ : zrR Try.prog (K.ro .u8) 24 := zlX zBX Try.underlying24 Try.underlying5 (by kernel_rfl)
theorem zz5 : zrR Try.prog K.u8 5 := zt6 Try.underlying5
end
section
open Go.ChangeShapes Go.WideShapes Go.ChangeAt Go.RowKit
deriving instance DecidableEq for CS
section
variable {P : Program} {els : List (Nat × El)} {W : World} {H : Type} {enc : TypeId × Value -> H}
end
structure KQ where
  k : K
  q : k.T -> Prop
def TKQ : (l : List KQ) -> TKs (l.map KQ.k) -> Prop
  | [], _ => True
  | a :: l, x => a.q x.1 /\ TKQ l x.2
def zmT (P : Program) (a : KQ) (t : TypeId) : Prop :=
  ∀ (H : Type) (enc : TypeId × Value -> H) (W : World) (base : Nat) (v : Value) (d : DataW H) (p : List MemPlace), Value.okWide P W .any base t v -> DataW.Trod enc P W 0 (fun _ => true) true t v d p ->
    ∃ x : a.k.T, a.q x /\ zho W (fun b => b < W.heap.size) (a.k.enc x) v
def zj9 (P : Program) : List KQ -> List TypeId -> Prop
  | [], [] => True
  | k :: ks, t :: ts => zmT P k t /\ zj9 P ks ts
  | _, _ => False
theorem zg3 {P : Program} {H : Type} {enc : TypeId × Value -> H} {W : World} {base : Nat} : ∀ {ks : List KQ} {ts : List TypeId} {vs : List Value} {ds : List (DataW H)} {p : List MemPlace}, zj9 P ks ts -> DataW.TrodAll enc P W 0 (fun _ => true) true ts vs ds p ->
    (∀ (j : Nat) t v, ts[j]? = some t -> vs[j]? = some v -> Value.okWide P W .any base t v) -> ∃ x : TKs (ks.map KQ.k), TKQ ks x /\ zbc W (fun b => b < W.heap.size) (zeU (ks.map KQ.k) x) vs
  | [], [], [], [], _, _, _, _ => ⟨(), trivial, trivial⟩
  | k :: ks, t :: ts, v :: vs, d :: ds, p, ho, ht, hv => by
    obtain ⟨p1, q1, h1, h2, _⟩ := ht
    obtain ⟨x, hx0, hx⟩ := ho.1 H enc W base v d p1 (hv 0 t v rfl rfl) h1
    obtain ⟨y, hy0, hy⟩ := zg3 ho.2 h2 fun j t v hj hw => hv (j + 1) t v (by simpa using hj) (by simpa using hw)
    exact ⟨(x, y), ⟨hx0, hy0⟩, hx, hy⟩
  | [], _ :: _, _, _, _, ho, _, _ => ho.elim
  | _ :: _, [], _, _, _, ho, _, _ => ho.elim
  | [], [], _ :: _, _, _, _, ht, _ => by cases ht
  | [], [], [], _ :: _, _, _, ht, _ => by cases ht
  | _ :: _, _ :: _, [], _, _, _, ht, _ => by cases ht
  | _ :: _, _ :: _, _ :: _, [], _, _, ht, _ => by cases ht
def KQ.any (k : K) : KQ := ⟨k, fun _ => True⟩
theorem zka {P : Program} {k : K} {t : TypeId} (h : zrR P k t) : zmT P (KQ.any k) t := fun H enc W base v d p hv ht => by
  obtain ⟨x, hx⟩ := h H enc W base v d p hv ht
  exact ⟨x, trivial, hx⟩
def isAgg : TypeDesc -> Bool
  | .struct _ => true
  | .array _ _ => true
  | _ => false
def KQ.vec (e : El) (n : Nat) : KQ := ⟨K.vec e, fun l => l.length = n⟩
theorem znR {P : Program} {pd : PD} (hp : PDok P pd) {env : Nat -> Option Sg} (henv : ∀ f g, env f = some g -> SgOK P pd.els f g) {n : FuncId} {fn : Func} (hf : P.funcs[n]? = some fn) (hname : fn.name ≠ "runtime.NumGoroutine")
    (ps : List K) (f : TKs ps -> Option (TKs [K.bool])) (N : Nat) (tab : List (Nat × Head)) (d : Nat)
    (hrun : ∀ x, zjh pd env fn (zcm [K.bool]) (mkLp pd env (zc2 pd fn (zcm [K.bool])) N tab d) (zeU ps x) = f x)
    (x : TKs ps) (hx : f x = some (true, ())) (w : World) (vs : List Value) (ok : Nat -> Prop) (hok : ∀ b, ok b -> b < w.heap.size) (hh : zbc w ok (zeU ps x) vs) :
    Calls P n vs.toArray w fun e w' => e = .returned (.bool true) /\ Kept w w' := by
  have h := zsw (P := P) (pd := pd) hp henv hf hname ⟨TKs [K.bool], 0, fun us => zjh pd env fn (zcm [K.bool]) (mkLp pd env (zc2 pd fn (zcm [K.bool])) N tab d) us, fun r => zoV (zeU [K.bool] r)⟩ rfl (zcm [K.bool])
    (fun us r h => by rw [zcX h]) N tab d (fun us r h => h) (us := zeU ps x) (r := (true, ())) ((hrun x).trans hx) w vs ok hok hh
  refine h.mono fun e w' he => ?_
  cases e with
  | returned v =>
    obtain ⟨⟨gs, cs, h1, h2⟩, h3⟩ := he
    refine ⟨?_, h3⟩
    cases h1 with
    | c h4 =>
      cases h4
      cases h2 with
      | sc h5 _ => simp only [C.val, Option.some.injEq] at h5; subst h5; rfl
  | panicked ch => exact he.elim
  | outgrown => exact he.elim
end
section
open Go.ChangeShapes Go.WideShapes Go.ChangeAt Go.RowKit
theorem oq24 : zmT Try.prog (KQ.any (K.ro .u8)) 24 := zka zwZ
theorem oq5 : zmT Try.prog (KQ.any K.u8) 5 := zka zz5
end
section
def KQ.ro (e : El) : KQ := ⟨K.ro e, fun l => (show List e.T from l).length < 9223372036854775808⟩
end
end Go.Proofs.Ytgimohchocjgcaa.V
