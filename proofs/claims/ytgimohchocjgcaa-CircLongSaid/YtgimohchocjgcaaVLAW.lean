import Derived.Test.YtgimohchocjgcaaVWC3
import Derived.KernelRfl
import Derived.Test.YtgimohchocjgcaaVWB6
import Derived.Test.YtgimohchocjgcaaVME
import Derived.WalkKit
import Derived.ProofKit
import Derived.OpenShut
import Derived.Carry
import Derived.ChangeSlices
set_option linter.unusedVariables false
set_option linter.unusedSimpArgs false
namespace Go.Proofs.Ytgimohchocjgcaa.V
section
structure PlS where
  n : Nat
  pv : List Fr
  vs : List Fr
  st : List Stp
  pb : List Row
  rw : List Row
  sm : List Pr
def zdP (n : Nat) : Fr := ⟨u64I (n : Int), 0, 0, 0⟩
def five : Fr := ⟨5, 0, 0, 0⟩
def fneg (a : Fr) : Fr := frN ((RR - fv a) % RR)
def PlS.val (s : PlS) (x : Nat) : Fr := s.vs.getD x Fr.zero
def PlS.two (s : PlS) (n : Nat) (c : Fr) (t : Stp) : PlS := ⟨n, s.pv, s.vs ++ [c], s.st ++ [svar] ++ [t], s.pb, s.rw ++ zcg t, cond (eqI t.kind 6) (s.sm ++ [⟨t.v0, t.v1⟩]) s.sm⟩
def tMul (x y z : Nat) (k : Fr) : Stp := ⟨2, x, y, z, one1, k, .zero, fneg one1, five⟩
def ztt (z : Nat) : Stp := ⟨3, z, 0, 0, .zero, .zero, .zero, .zero, .zero⟩
def tPow (x z : Nat) : Stp := ⟨4, x, 0, z, .zero, .zero, .zero, .zero, .zero⟩
def ztu (x y z : Nat) : Stp := ⟨5, x, y, z, .zero, .zero, .zero, .zero, .zero⟩
def ztv (z x : Nat) : Stp := ⟨6, z, x, 0, .zero, .zero, .zero, .zero, .zero⟩
def tPub (x : Nat) : Stp := ⟨7, x, 0, 0, .zero, .zero, .zero, .zero, .zero⟩
def tNo (x : Nat) : Stp := ⟨2, x, -5, x, .zero, one1, .zero, fneg one1, .zero⟩
inductive Gate : PlS -> PlS -> Prop
  | mul {s : PlS} (n x y k : Nat) (hx : x < s.vs.length) (hy : y < s.vs.length) (hk : k < 9) :
      Gate s (s.two n (fadd (fadd (fmul (s.val x) (s.val y)) (fmul (zdP k) (s.val x))) five) (tMul x y s.vs.length (zdP k)))
  | bool {s : PlS} (n k : Nat) (hk : k < 2) : Gate s (s.two n (zdP k) (ztt s.vs.length))
  | pow {s : PlS} (n x : Nat) (hx : x < s.vs.length) : Gate s (s.two n (frN (fv (s.val x) ^ 5 % RR)) (tPow x s.vs.length))
  | next {s : PlS} (n x y : Nat) (hx : x < s.vs.length) (hy : y < s.vs.length) : Gate s (s.two n (fadd (s.val x) (s.val y)) (ztu x y s.vs.length))
  | same {s : PlS} (n x : Nat) (hx : x < s.vs.length) : Gate s (s.two n (s.val x) (ztv s.vs.length x))
  | pub {s : PlS} (n x : Nat) (hx : x < s.vs.length) (hp : s.pv.length < 3) : Gate s ⟨n, s.pv ++ [s.val x], s.vs, s.st ++ [tPub x], s.pb ++ [zdA x], s.rw, s.sm⟩
  | skip {s : PlS} (n : Nat) : Gate s ⟨n, s.pv, s.vs, s.st, s.pb, s.rw, s.sm⟩
  | no {s : PlS} (n x : Nat) (hx : x < s.vs.length) : Gate s ⟨n, s.pv, s.vs, s.st ++ [tNo x], s.pb, s.rw ++ zcg (tNo x), s.sm⟩
structure PlI (g : Nat) (s : PlS) : Prop where
  v2 : 2 <= s.vs.length
  v : s.vs.length <= 2 + g
  p : s.pv.length <= 3
  pp : s.pb.length = s.pv.length
  r : s.rw.length <= 2 * g
  m : s.sm.length <= g
  st : s.st.length <= 2 + 2 * g
  sc : ∀ x ∈ s.vs, Sc x
theorem PlI.val {g : Nat} {s : PlS} (h : PlI g s) (x : Nat) : Sc (s.val x) := by
  unfold PlS.val
  rcases Nat.lt_or_ge x s.vs.length with h1 | h1
  . rw [List.getD_eq_getElem?_getD, List.getElem?_eq_getElem h1]
    exact h.sc _ (List.getElem_mem h1)
  . rw [List.getD_eq_getElem?_getD, List.getElem?_eq_none h1]
    exact zaC
theorem zrt {k : Nat} (h : k < 1000) : fv (zdP k) = k := by
  have e : (u64I (k : Int)).toNat = k := zm0 (by omega)
  exact (zi8 _).trans e
theorem zru : 1000 < RR := by decide +kernel
theorem zdL {k : Nat} (h : k < 1000) : Sc (zdP k) := by
  unfold Sc
  rw [zrt h]
  have := zru
  omega
theorem zrv : Sc five := by unfold Sc five; decide +kernel
theorem zhc : Sc one1 := by unfold Sc one1; decide +kernel
theorem zt8 (a : Fr) : Sc (fneg a) := by unfold Sc fneg; rw [zh2]; exact Nat.mod_lt _ (by have := zru; omega)
theorem zm3 (n : Nat) : Sc (frN (n % RR)) := by unfold Sc; rw [zh2]; exact Nat.mod_lt _ (by have := zru; omega)
theorem zhd (a b : Fr) : Sc (fadd a b) := zm3 _
theorem zrw (a b : Fr) : Sc (fmul a b) := zm3 _
theorem zt9 {V : Int} {x y z : Nat} {k : Fr} (hx : (x : Int) < V) (hy : (y : Int) < V) (hz : (z : Int) < V) (hk : Sc k) : okS V (tMul x y z k) :=
  ⟨⟨by show (1 : Int) <= 2; decide, by show (2 : Int) <= 7; decide⟩, ⟨zhc, hk, zaC, zt8 _, zrv⟩, fun _ => ⟨hx, .inr rfl⟩, fun _ => ⟨hy, .inr rfl⟩, fun _ => ⟨hz, .inr rfl⟩⟩
theorem zrx {V : Int} {z : Nat} (hz : (z : Int) < V) : okS V (ztt z) :=
  ⟨⟨by show (1 : Int) <= 3; decide, by show (3 : Int) <= 7; decide⟩, ⟨zaC, zaC, zaC, zaC, zaC⟩, fun _ => ⟨hz, .inl (show (0 : Int) <= (z : Int) by omega)⟩, fun h => absurd h (by show ¬ ((3 : Int) = 2 \/ (3 : Int) = 5 \/ (3 : Int) = 6); decide), fun h => absurd h (by show ¬ ((3 : Int) = 2 \/ (3 : Int) = 4 \/ (3 : Int) = 5); decide)⟩
theorem zua {V : Int} {x z : Nat} (hx : (x : Int) < V) (hz : (z : Int) < V) : okS V (tPow x z) :=
  ⟨⟨by show (1 : Int) <= 4; decide, by show (4 : Int) <= 7; decide⟩, ⟨zaC, zaC, zaC, zaC, zaC⟩, fun _ => ⟨hx, .inl (show (0 : Int) <= (x : Int) by omega)⟩, fun h => absurd h (by show ¬ ((4 : Int) = 2 \/ (4 : Int) = 5 \/ (4 : Int) = 6); decide), fun _ => ⟨hz, .inl (show (0 : Int) <= (z : Int) by omega)⟩⟩
theorem zry {V : Int} {x y z : Nat} (hx : (x : Int) < V) (hy : (y : Int) < V) (hz : (z : Int) < V) : okS V (ztu x y z) :=
  ⟨⟨by show (1 : Int) <= 5; decide, by show (5 : Int) <= 7; decide⟩, ⟨zaC, zaC, zaC, zaC, zaC⟩, fun _ => ⟨hx, .inl (show (0 : Int) <= (x : Int) by omega)⟩, fun _ => ⟨hy, .inl (show (0 : Int) <= (y : Int) by omega)⟩, fun _ => ⟨hz, .inl (show (0 : Int) <= (z : Int) by omega)⟩⟩
theorem zrz {V : Int} {x z : Nat} (hx : (x : Int) < V) (hz : (z : Int) < V) : okS V (ztv z x) :=
  ⟨⟨by show (1 : Int) <= 6; decide, by show (6 : Int) <= 7; decide⟩, ⟨zaC, zaC, zaC, zaC, zaC⟩, fun _ => ⟨hz, .inl (show (0 : Int) <= (z : Int) by omega)⟩, fun _ => ⟨hx, .inl (show (0 : Int) <= (x : Int) by omega)⟩, fun h => absurd h (by show ¬ ((6 : Int) = 2 \/ (6 : Int) = 4 \/ (6 : Int) = 5); decide)⟩
theorem zub {V : Int} {x : Nat} (hx : (x : Int) < V) : okS V (tPub x) :=
  ⟨⟨by show (1 : Int) <= 7; decide, by show (7 : Int) <= 7; decide⟩, ⟨zaC, zaC, zaC, zaC, zaC⟩, fun _ => ⟨hx, .inl (show (0 : Int) <= (x : Int) by omega)⟩, fun h => absurd h (by show ¬ ((7 : Int) = 2 \/ (7 : Int) = 5 \/ (7 : Int) = 6); decide), fun h => absurd h (by show ¬ ((7 : Int) = 2 \/ (7 : Int) = 4 \/ (7 : Int) = 5); decide)⟩
theorem zzd {V : Int} {x : Nat} (hx : (x : Int) < V) : okS V (tNo x) :=
  ⟨⟨by show (1 : Int) <= 2; decide, by show (2 : Int) <= 7; decide⟩, ⟨zaC, zhc, zaC, zt8 _, zaC⟩, fun _ => ⟨hx, .inr rfl⟩, fun _ => ⟨show (-5 : Int) < V by omega, .inr rfl⟩, fun _ => ⟨hx, .inr rfl⟩⟩
theorem PlI.two {g : Nat} {s : PlS} (h : PlI g s) (n : Nat) {c : Fr} (hc : Sc c) (t : Stp) (ht : (zcg t).length <= 2) : PlI (g + 1) (s.two n c t) := by
  refine ⟨?_, ?_, h.p, h.pp, ?_, ?_, ?_, ?_⟩
  . have := h.v2; simp [PlS.two]; omega
  . have := h.v; simp [PlS.two]; omega
  . have := h.r; simp [PlS.two]; omega
  . have := h.m
    unfold PlS.two
    cases eqI t.kind 6 <;> simp <;> omega
  . have := h.st; simp [PlS.two]; omega
  . intro x hx
    simp only [PlS.two, List.mem_append, List.mem_singleton] at hx
    rcases hx with hx | rfl
    . exact h.sc x hx
    . exact hc
theorem Gate.inv {g : Nat} {s s' : PlS} (hg : Gate s s') (h : PlI g s) : PlI (g + 1) s' := by
  cases hg with
  | mul n x y k hx hy hk => exact h.two n (zhd _ _) _ (show 1 <= 2 by omega)
  | bool n k hk => exact h.two n (zdL (by omega)) _ (show 1 <= 2 by omega)
  | pow n x hx => exact h.two n (zm3 _) _ (show 1 <= 2 by omega)
  | next n x y hx hy => exact h.two n (zhd _ _) _ (show 2 <= 2 by omega)
  | same n x hx => exact h.two n (h.val x) _ (show 0 <= 2 by omega)
  | pub n x hx hp =>
    have := h.v2; have := h.v; have := h.pp; have := h.r; have := h.m; have := h.st
    refine ⟨by simpa using h.v2, by simp only; omega, by simp; omega, by simp; omega, by simp only; omega, by simp only; omega, by simp; omega, h.sc⟩
  | skip n =>
    have := h.v2; have := h.v; have := h.pp; have := h.r; have := h.m; have := h.st
    exact ⟨by simpa using h.v2, by simp only; omega, h.p, h.pp, by simp only; omega, by simp only; omega, by simp only; omega, h.sc⟩
  | no n x hx =>
    have := h.v2; have := h.v; have := h.pp; have := h.r; have := h.m; have := h.st
    refine ⟨by simpa using h.v2, by simp only; omega, h.p, h.pp, ?_, by simp only; omega, by simp; omega, h.sc⟩
    simp only [List.length_append, show (zcg (tNo x)).length = 1 from rfl]; omega
abbrev Lp95 := (List UInt8) -> Int -> Int -> Int -> Int -> Int -> Int -> Int -> Int -> Fr -> (List Row) -> (List Pr) -> (List Fr) -> (List Fr) -> (List Stp) -> (List Row) -> (List Pr) -> (List Fr) -> (List Fr) -> (List Stp) -> (List Row) -> (List Row) -> (List Pr) -> Option ((Int × Int × List Row × List Pr × List Fr × List Fr × List Stp × Unit) × Unit)
def Lp95.at (A : Lp95) (l : List UInt8) (most g : Int) (s : PlS) : Option ((Int × Int × List Row × List Pr × List Fr × List Fr × List Stp × Unit) × Unit) :=
  A l most g 0 0 0 0 (s.n : Int) (s.vs.length : Int) one1 [] [] [] [] [] [] [] s.pv s.vs s.st s.pb s.rw s.sm
theorem zks {N g : Nat} (hN : 100 <= N) (hg : g <= 20) {s : PlS} (h : PlI g s) (n : Nat) {c d : Fr} (hc : Sc c) {t : Stp} (ht : okS ((s.vs.length + 1 : Nat) : Int) t) (h2 : (zcg t).length <= 2) (h7 : eqI t.kind 7 = false) (h1 : eqI t.kind 1 = false) :
    q187 N 0 0 [] [] s.pv (s.vs ++ [c]) (s.st ++ [svar]) (((s.vs.length + 1 : Nat)) : Int) s.pb s.rw s.sm t d =
      some ((0, 0, [], [], (s.two n c t).pv, (s.two n c t).vs, (s.two n c t).st, ()), (((s.two n c t).vs.length : Int), (s.two n c t).pb, (s.two n c t).rw, (s.two n c t).sm, ()), 0, ()) := by
  have := h.v2; have := h.v; have := h.pp; have := h.p; have := h.r; have := h.m; have := h.st
  rw [zjc hN ht (by omega) (by omega) (by omega) (by omega) (by simp; omega) (by simp; omega)]
  rw [h7, h1]
  simp only [cond_false, PlS.two, List.length_append, List.length_cons, List.length_nil]
section
variable {N g : Nat} (hN : 2000 <= N) (hg : g <= 14) {s : PlS} (h : PlI g s) (hn : s.n <= 2 + 4 * g) (l : List UInt8) (most : Int) (A : Lp95)
include hN hg h
theorem ztw (c : Fr) : q185 N 0 0 [] [] s.pv s.vs s.st (s.vs.length : Int) s.pb s.rw s.sm c = some ((0, 0, [], [], s.pv, s.vs ++ [c], s.st ++ [svar], ()), (((s.vs.length + 1 : Nat) : Int), s.pb, s.rw, s.sm, ()), (s.vs.length : Int), ()) := by
  have := h.v2; have := h.v; have := h.pp; have := h.p; have := h.r; have := h.m; have := h.st
  exact zmb (by omega) (by omega) (by omega) (by omega) (by omega) (by omega) c
include hn
theorem ztx (hlt : (g : Int) < most) (hl : s.n < l.length) : ∃ s', Gate s s' /\ s'.n <= s.n + 4 /\ zkm N A l most (g : Int) 0 0 0 0 (s.n : Int) (s.vs.length : Int) one1 [] [] [] [] [] [] [] s.pv s.vs s.st s.pb s.rw s.sm = Lp95.at A l most ((g + 1 : Nat) : Int) s' := by
  have hv2 := h.v2; have hv := h.v; have hpp := h.pp; have hp3 := h.p; have hr := h.r; have hm := h.m; have hst := h.st
  generalize hx : numX l s.n s.vs.length = x
  have hxl : x < s.vs.length := by rw [← hx]; exact zec _ _ (by omega)
  generalize hn1 : numN l s.n = n1
  have hn1' : n1 <= s.n + 1 := by rw [← hn1]; exact zed _ _
  generalize hy : numX l n1 s.vs.length = y
  have hyl : y < s.vs.length := by rw [← hy]; exact zec _ _ (by omega)
  generalize hn2 : numN l n1 = n2
  have hn2' : n2 <= n1 + 1 := by rw [← hn2]; exact zed _ _
  generalize hk : numX l n2 7 = k
  have hk7 : k < 7 := by rw [← hk]; exact zec _ _ (by omega)
  generalize hn3 : numN l n2 = n3
  have hn3' : n3 <= n2 + 1 := by rw [← hn3]; exact zed _ _
  have e1 : q186 N (s.n : Int) l (s.vs.length : Int) = some (((n1 : Int), ()), (x : Int), ()) := by rw [zee (by omega) (by omega), hx, hn1]
  have e2 : q186 N (n1 : Int) l (s.vs.length : Int) = some (((n2 : Int), ()), (y : Int), ()) := by rw [zee (by omega) (by omega), hy, hn2]
  have e3 : q186 N (n2 : Int) l 7 = some (((n3 : Int), ()), (k : Int), ()) := by rw [show (7 : Int) = ((7 : Nat) : Int) from rfl, zee (by omega) (by omega), hk, hn3]
  have e9 : q186 N (n3 : Int) l 9 = some ((((numN l n3 : Nat) : Int), ()), ((numX l n3 9 : Nat) : Int), ()) := by rw [show (9 : Int) = ((9 : Nat) : Int) from rfl, zee (by omega) (by omega)]
  have e22 : q186 N (n3 : Int) l 2 = some ((((numN l n3 : Nat) : Int), ()), ((numX l n3 2 : Nat) : Int), ()) := by rw [show (2 : Int) = ((2 : Nat) : Int) from rfl, zee (by omega) (by omega)]
  have hvx : List.getD s.vs x Fr.zero = s.val x := rfl
  have hvy : List.getD s.vs y Fr.zero = s.val y := rfl
  have hf := fun c => ztw hN hg h c
  unfold zkm
  rw [zae hlt, cond_true, zae (by omega), cond_true, e1]
  simp only [bsm]
  rw [e2]
  simp only [bsm]
  rw [zcn (by omega : (0 : Int) <= (x : Int)), zae (by omega : (x : Int) < (s.vs.length : Int)), zcn (by omega : (0 : Int) <= (y : Int)), zae (by omega : (y : Int) < (s.vs.length : Int))]
  simp only [Bool.and_self, mst2, zaf, Int.toNat_natCast]
  rw [e3]
  simp only [bsm, hvx, hvy]
  have hks : k = 0 \/ k = 1 \/ k = 2 \/ k = 3 \/ k = 4 \/ k = 5 \/ k = 6 := by omega
  rcases hks with rfl | rfl | rfl | rfl | rfl | rfl | rfl
  . rw [show eqI ((0 : Nat) : Int) 0 = true from rfl, cond_true, e9]
    simp only [bsm, zl1]
    have hk9 : numX l n3 9 < 9 := zec _ _ (by omega)
    rw [mulR (by omega) (h.val y)]
    simp only [bsm]
    rw [show (Fr.mk (u64I ((numX l n3 9 : Nat) : Int)) 0 0 0) = zdP (numX l n3 9) from rfl, show (Fr.mk 5 0 0 0) = five from rfl, mulR (by omega) (h.val x)]
    simp only [bsm]
    rw [addR (by omega) (zrw _ _) (zrw _ _)]
    simp only [bsm]
    rw [addR (by omega) (zhd _ _) zrv]
    simp only [bsm]
    rw [hf]
    simp only [bsm]
    rw [zt2 (by omega) zhc]
    simp only [bsm]
    rw [show Stp.mk (2 : Int) (x : Int) (y : Int) (s.vs.length : Int) one1 (zdP (numX l n3 9)) .zero (frN ((RR - fv one1) % RR)) five = tMul x y s.vs.length (zdP (numX l n3 9)) from rfl,
      zks (by omega) (by omega) h (numN l n3) (zhd _ _) (t := tMul x y s.vs.length (zdP (numX l n3 9))) (zt9 (by omega) (by omega) (by omega) (zdL (by omega))) (show 1 <= 2 by omega) rfl rfl]
    simp only [bsm]
    rw [zaG (by omega)]
    exact ⟨_, .mul (numN l n3) x y _ hxl hyl hk9, by have := zed l n3; simp only [PlS.two]; omega, rfl⟩
  . rw [show eqI ((1 : Nat) : Int) 0 = false from rfl, cond_false, show eqI ((1 : Nat) : Int) 1 = true from rfl, cond_true, e22]
    simp only [bsm, zl1]
    have hk2 : numX l n3 2 < 2 := zec _ _ (by omega)
    rw [show (Fr.mk (u64I ((numX l n3 2 : Nat) : Int)) 0 0 0) = zdP (numX l n3 2) from rfl, hf]
    simp only [bsm]
    rw [show Stp.mk (3 : Int) (s.vs.length : Int) 0 0 .zero .zero .zero .zero .zero = ztt s.vs.length from rfl,
      zks (by omega) (by omega) h (numN l n3) (zdL (by omega)) (t := ztt s.vs.length) (zrx (by omega)) (show 1 <= 2 by omega) rfl rfl]
    simp only [bsm]
    rw [zaG (by omega)]
    exact ⟨_, .bool (numN l n3) _ hk2, by have := zed l n3; simp only [PlS.two]; omega, rfl⟩
  . rw [show eqI ((2 : Nat) : Int) 0 = false from rfl, cond_false, show eqI ((2 : Nat) : Int) 1 = false from rfl, cond_false, show eqI ((2 : Nat) : Int) 2 = true from rfl, cond_true]
    rw [zyN (h.val x) (by simp; omega) (by simp)]
    simp only [bsm]
    rw [show lv [(5 : UInt64)] = 5 from rfl, hf]
    simp only [bsm]
    rw [show Stp.mk (4 : Int) (x : Int) 0 (s.vs.length : Int) .zero .zero .zero .zero .zero = tPow x s.vs.length from rfl,
      zks (by omega) (by omega) h n3 (zm3 _) (t := tPow x s.vs.length) (zua (by omega) (by omega)) (show 1 <= 2 by omega) rfl rfl]
    simp only [bsm]
    rw [zaG (by omega)]
    exact ⟨_, .pow n3 x hxl, by simp only [PlS.two]; omega, rfl⟩
  . rw [show eqI ((3 : Nat) : Int) 0 = false from rfl, cond_false, show eqI ((3 : Nat) : Int) 1 = false from rfl, cond_false, show eqI ((3 : Nat) : Int) 2 = false from rfl, cond_false, show eqI ((3 : Nat) : Int) 3 = true from rfl, cond_true]
    rw [addR (by omega) (h.val x) (h.val y)]
    simp only [bsm]
    rw [hf]
    simp only [bsm]
    rw [show Stp.mk (5 : Int) (x : Int) (y : Int) (s.vs.length : Int) .zero .zero .zero .zero .zero = ztu x y s.vs.length from rfl,
      zks (by omega) (by omega) h n3 (zhd _ _) (t := ztu x y s.vs.length) (zry (by omega) (by omega) (by omega)) (show 2 <= 2 by omega) rfl rfl]
    simp only [bsm]
    rw [zaG (by omega)]
    exact ⟨_, .next n3 x y hxl hyl, by simp only [PlS.two]; omega, rfl⟩
  . rw [show eqI ((4 : Nat) : Int) 0 = false from rfl, cond_false, show eqI ((4 : Nat) : Int) 1 = false from rfl, cond_false, show eqI ((4 : Nat) : Int) 2 = false from rfl, cond_false, show eqI ((4 : Nat) : Int) 3 = false from rfl, cond_false, show eqI ((4 : Nat) : Int) 4 = true from rfl, cond_true]
    rw [hf]
    simp only [bsm]
    rw [show Stp.mk (6 : Int) (s.vs.length : Int) (x : Int) 0 .zero .zero .zero .zero .zero = ztv s.vs.length x from rfl,
      zks (by omega) (by omega) h n3 (h.val x) (t := ztv s.vs.length x) (zrz (by omega) (by omega)) (show 0 <= 2 by omega) rfl rfl]
    simp only [bsm]
    rw [zaG (by omega)]
    exact ⟨_, .same n3 x hxl, by simp only [PlS.two]; omega, rfl⟩
  . rw [show eqI ((5 : Nat) : Int) 0 = false from rfl, cond_false, show eqI ((5 : Nat) : Int) 1 = false from rfl, cond_false, show eqI ((5 : Nat) : Int) 2 = false from rfl, cond_false, show eqI ((5 : Nat) : Int) 3 = false from rfl, cond_false, show eqI ((5 : Nat) : Int) 4 = false from rfl, cond_false, show eqI ((5 : Nat) : Int) 5 = true from rfl, cond_true]
    rw [zaG (by omega)]
    by_cases hp : s.pv.length < 3
    . rw [zae (by omega), cond_true]
      rw [show Stp.mk (7 : Int) (x : Int) 0 0 .zero .zero .zero .zero .zero = tPub x from rfl,
        zjc (s := tPub x) (by omega) (zub (by omega)) (by omega) (by rw [show (zcg (tPub x)).length = 1 from rfl]; omega) (by omega) (by omega) (by omega) (by omega)]
      simp only [bsm]
      rw [zay (by simp; omega), mst2]
      exact ⟨_, .pub n3 x hxl hp, by simp only; omega, rfl⟩
    . rw [zad (by omega), cond_false]
      exact ⟨_, .skip n3, by simp only; omega, rfl⟩
  . rw [show eqI ((6 : Nat) : Int) 0 = false from rfl, cond_false, show eqI ((6 : Nat) : Int) 1 = false from rfl, cond_false, show eqI ((6 : Nat) : Int) 2 = false from rfl, cond_false, show eqI ((6 : Nat) : Int) 3 = false from rfl, cond_false, show eqI ((6 : Nat) : Int) 4 = false from rfl, cond_false, show eqI ((6 : Nat) : Int) 5 = false from rfl, cond_false]
    rw [zt2 (by omega) zhc]
    simp only [bsm]
    rw [show Stp.mk (2 : Int) (x : Int) (-5) (x : Int) .zero one1 .zero (frN ((RR - fv one1) % RR)) .zero = tNo x from rfl,
      zjc (s := tNo x) (by omega) (zzd (by omega)) (by omega) (by rw [show (zcg (tNo x)).length = 1 from rfl]; omega) (by omega) (by omega) (by omega) (by omega)]
    simp only [bsm]
    rw [zaG (by omega)]
    exact ⟨_, .no n3 x hxl, by simp only; omega, rfl⟩
end
end
section
inductive Plays : PlS -> PlS -> Prop
  | refl (s : PlS) : Plays s s
  | step {s t u : PlS} : Gate s t -> Plays t u -> Plays s u
def PlS.res (s : PlS) : (Int × Int × List Row × List Pr × List Fr × List Fr × List Stp × Unit) := ((s.pb.length : Int), (s.vs.length : Int), s.pb ++ s.rw, s.sm, s.pv, s.vs, s.st, ())
theorem zuc {N g : Nat} (hg : g <= 14) {s : PlS} (h : PlI g s) {R : Type} (f : (((Int × List Row × List Row × Unit) × Nat) × (Int × Int × List Row × List Pr × Unit) × Unit) -> Option R) :
    Option.bind (q118 N (s.vs.length : Int) s.pb s.rw s.sm) f = f ((((s.vs.length : Int), s.pb, s.rw, ()), s.sm.length), ((s.pb.length : Int), (s.vs.length : Int), s.pb ++ s.rw, s.sm, ()), ()) := by
  have hpp := h.pp; have hp3 := h.p; have hr := h.r
  unfold q118
  rw [zay (by omega), zay (by omega), mst2, mst2, bsm]
theorem zrA {N most : Nat} (hN : 2000 <= N) (hmo : most <= 14) (l : List UInt8) : ∀ (k g f : Nat) (s : PlS), PlI g s -> s.n <= 2 + 4 * g -> g + k = most -> k < f ->
    ∃ s' g', g' <= most /\ Plays s s' /\ PlI g' s' /\ zl8 N f l (most : Int) (g : Int) 0 0 0 0 (s.n : Int) (s.vs.length : Int) one1 [] [] [] [] [] [] [] s.pv s.vs s.st s.pb s.rw s.sm = some (s'.res, ())
  | 0, g, f + 1, s, h, hn, hk, hf => by
    refine ⟨s, g, by omega, .refl s, h, ?_⟩
    rw [zig]
    unfold zkm
    rw [zad (by omega), cond_false, zuc (by omega) h]
    rfl
  | k + 1, g, f + 1, s, h, hn, hk, hf => by
    rw [zig]
    by_cases hl : s.n < l.length
    . obtain ⟨t, hg, hn', e⟩ := ztx hN (by omega) h hn l (most : Int) (zl8 N f) (by omega) hl
      obtain ⟨s', g', q0, q1, q2, q3⟩ := zrA hN hmo l k (g + 1) f t (hg.inv h) (by omega) (by omega) (by omega)
      exact ⟨s', g', q0, .step hg q1, q2, e.trans q3⟩
    . refine ⟨s, g, by omega, .refl s, h, ?_⟩
      unfold zkm
      rw [zae (by omega), cond_true, zad (by omega), cond_false, zuc (by omega) h]
      rfl
def zmc (n a b : Nat) : PlS := ⟨n, [], [zdP a, zdP b], [svar, svar], [], [], []⟩
theorem zkt {n a b : Nat} (ha : a < 200) (hb : b < 2) : PlI 0 (zmc n a b) :=
  ⟨Nat.le_refl 2, Nat.le_refl 2, Nat.zero_le _, rfl, Nat.le_refl 0, Nat.le_refl 0, Nat.le_refl 2, fun x hx => by
    simp only [zmc, List.mem_cons, List.not_mem_nil, or_false] at hx
    rcases hx with rfl | rfl
    . exact zdL (by omega)
    . exact zdL (by omega)⟩
theorem zze {N most : Nat} (hN : 2000 <= N) (hmo : most <= 14) (l : List UInt8) :
    ∃ n a b s g, a < 200 /\ b < 2 /\ g <= most /\ Plays (zmc n a b) s /\ PlI g s /\ q95 N l (most : Int) = some (s.res, ()) := by
  have e1 : q186 N 0 l 200 = some ((((numN l 0 : Nat) : Int), ()), ((numX l 0 200 : Nat) : Int), ()) := zee (n := 0) (m := 200) (by omega) (by omega)
  have hn1 := zed l 0
  have e2 : q186 N ((numN l 0 : Nat) : Int) l 2 = some ((((numN l (numN l 0) : Nat) : Int), ()), ((numX l (numN l 0) 2 : Nat) : Int), ()) := zee (m := 2) (by omega) (by omega)
  have hn2 := zed l (numN l 0)
  have ha : numX l 0 200 < 200 := zec _ _ (by omega)
  have hb : numX l (numN l 0) 2 < 2 := zec _ _ (by omega)
  have f1 := fun c => zmb (N := N) (by omega) (pb := []) (rw := []) (sm := []) (pv := []) (vs := []) (st := []) (by simp) (by simp) (by simp) (by simp) (by simp) c
  have f2 := fun c d => zmb (N := N) (by omega) (pb := []) (rw := []) (sm := []) (pv := []) (vs := [c]) (st := [svar]) (by simp) (by simp) (by simp) (by simp) (by simp) d
  obtain ⟨s, g, q0, q1, q2, q3⟩ := zrA hN hmo l most 0 N (zmc (numN l (numN l 0)) (numX l 0 200) (numX l (numN l 0) 2)) (zkt ha hb) (by simp only [zmc]; omega) (by omega) (by omega)
  refine ⟨_, _, _, s, g, ha, hb, q0, q1, q2, ?_⟩
  unfold q95
  simp only [zl1, bsm]
  rw [e1]
  simp only [bsm]
  rw [show q185 N 0 0 [] [] [] [] [] 0 [] [] [] (Fr.mk (u64I ((numX l 0 200 : Nat) : Int)) 0 0 0) = _ from f1 (zdP (numX l 0 200))]
  simp only [bsm]
  rw [e2]
  simp only [bsm]
  rw [show q185 N 0 0 [] [] [] ([] ++ [zdP (numX l 0 200)]) ([] ++ [svar]) (((([] : List Fr).length + 1 : Nat)) : Int) [] [] [] (Fr.mk (u64I ((numX l (numN l 0) 2 : Nat) : Int)) 0 0 0) = _ from f2 (zdP (numX l 0 200)) (zdP (numX l (numN l 0) 2))]
  simp only [bsm]
  exact q3
def zku (V : Int) (r : Row) : Prop := bigR r = false /\ unkR V r = false /\ lowR r = false
theorem zkv {x : Fr} (h : Sc x) : bg x = false := by unfold bg; unfold Sc at h; rw [decide_eq_true h]; rfl
theorem zdM {V : Int} {r : Row} (h0 : Sc r.q0) (h1 : Sc r.q1) (h2 : Sc r.q2) (h3 : Sc r.q3) (h4 : Sc r.q4) (h5 : Sc r.q5) (h6 : Sc r.q6) (h7 : Sc r.q7) (w0 : -1 <= r.w0 /\ r.w0 < V) (w1 : -1 <= r.w1 /\ r.w1 < V) (w2 : -1 <= r.w2 /\ r.w2 < V) : zku V r := by
  refine ⟨?_, ?_, ?_⟩
  . unfold bigR
    rw [zkv h0, zkv h1, zkv h2, zkv h3, zkv h4, zkv h5, zkv h6, zkv h7]
    rfl
  . unfold unkR
    rw [zaH (by omega), zaH (by omega), zaH (by omega)]
    rfl
  . unfold lowR
    rw [zad (by omega), zad (by omega), zad (by omega)]
    rfl
theorem zwt {V v : Int} (hV : 0 <= V) (h : v < V) : -1 <= mxI v (-1) /\ mxI v (-1) < V := by
  unfold mxI
  by_cases h1 : v < -1
  . rw [zae h1, cond_true]; omega
  . rw [zad h1, cond_false]; omega
theorem zfp {V : Int} (hV : 0 <= V) {s : Stp} (h : okS V s) : ∀ r ∈ zcg s, zku V r := by
  obtain ⟨k, v0, v1, v2, q0, q1, q2, q3, q4⟩ := s
  obtain ⟨⟨k1, k2⟩, ⟨a0, a1, a2, a3, a4⟩, b0, b1, b2⟩ := h
  simp only at k1 k2 b0 b1 b2 a0 a1 a2 a3 a4
  have hk : k = 1 \/ k = 2 \/ k = 3 \/ k = 4 \/ k = 5 \/ k = 6 \/ k = 7 := by omega
  have z := zaC
  have o := zhc
  have m : -1 <= (-1 : Int) /\ (-1 : Int) < V := by omega
  intro r hr
  rcases hk with rfl | rfl | rfl | rfl | rfl | rfl | rfl
  . cases (show r ∈ ([] : List Row) from hr)
  . have hr : r ∈ [Row.mk q0 q1 q2 q3 q4 .zero .zero .zero (mxI v0 (-1)) (mxI v1 (-1)) (mxI v2 (-1))] := hr
    rw [List.mem_singleton] at hr; subst hr
    exact zdM a0 a1 a2 a3 a4 z z z (zwt hV (b0 (by omega)).1) (zwt hV (b1 (by omega)).1) (zwt hV (b2 (by omega)).1)
  . have hr : r ∈ [Row.mk .zero .zero .zero .zero .zero one1 .zero .zero v0 (-1) (-1)] := hr
    rw [List.mem_singleton] at hr; subst hr
    have := b0 (by omega)
    unfold okV at this
    exact zdM z z z z z o z z (by simp only; omega) m m
  . have hr : r ∈ [Row.mk .zero .zero .zero .zero .zero .zero one1 .zero v0 (-1) v2] := hr
    rw [List.mem_singleton] at hr; subst hr
    have h0 := b0 (by omega)
    have h2 := b2 (by omega)
    unfold okV at h0 h2
    exact zdM z z z z z z o z (by simp only; omega) m (by simp only; omega)
  . have hr : r ∈ [Row.mk .zero .zero .zero .zero .zero .zero .zero one1 v0 v1 (-1), Row.mk .zero .zero .zero .zero .zero .zero .zero .zero v2 (-1) (-1)] := hr
    have h0 := b0 (by omega)
    have h1 := b1 (by omega)
    have h2 := b2 (by omega)
    unfold okV at h0 h1 h2
    simp only [List.mem_cons, List.not_mem_nil, or_false] at hr
    rcases hr with rfl | rfl
    . exact zdM z z z z z z z o (by simp only; omega) (by simp only; omega) m
    . exact zdM z z z z z z z z (by simp only; omega) m m
  . cases (show r ∈ ([] : List Row) from hr)
  . have hr : r ∈ [Row.mk .zero ⟨1, 0, 0, 0⟩ .zero .zero .zero .zero .zero .zero v0 (-1) (-1)] := hr
    rw [List.mem_singleton] at hr; subst hr
    have := b0 (by omega)
    unfold okV at this
    exact zdM z o z z z z z z (by simp only; omega) m m
theorem zku.mono {V W : Int} (h : V <= W) {r : Row} (hr : zku V r) : zku W r := by
  obtain ⟨a, b, c⟩ := hr
  refine ⟨a, ?_, c⟩
  unfold unkR at b ⊢
  simp only [Bool.or_eq_false_iff] at b
  obtain ⟨⟨b0, b1⟩, b2⟩ := b
  have := of_decide_eq_false b0
  have := of_decide_eq_false b1
  have := of_decide_eq_false b2
  rw [zaH (by omega), zaH (by omega), zaH (by omega)]
  rfl
structure GdI (s : PlS) : Prop where
  pb : ∀ r ∈ s.pb, ∃ x : Nat, x < s.vs.length /\ r = zdA x
  rw : ∀ r ∈ s.rw, zku (s.vs.length : Int) r
  sm : ∀ p ∈ s.sm, (0 <= p.x /\ p.x < (s.vs.length : Int)) /\ 0 <= p.y /\ p.y < (s.vs.length : Int)
theorem GdI.two {s : PlS} (h : GdI s) (n : Nat) (c : Fr) {t : Stp} (ht : okS ((s.vs.length + 1 : Nat) : Int) t) : GdI (s.two n c t) := by
  have hl : (s.two n c t).vs.length = s.vs.length + 1 := by simp [PlS.two]
  refine ⟨fun r hr => ?_, fun r hr => ?_, fun p hp => ?_⟩
  . obtain ⟨x, hx, e⟩ := h.pb r hr
    exact ⟨x, by omega, e⟩
  . rw [hl]
    simp only [PlS.two, List.mem_append] at hr
    rcases hr with hr | hr
    . exact (h.rw r hr).mono (by omega)
    . exact zfp (by omega) ht r hr
  . rw [hl]
    have old : ∀ p ∈ s.sm, (0 <= p.x /\ p.x < ((s.vs.length + 1 : Nat) : Int)) /\ 0 <= p.y /\ p.y < ((s.vs.length + 1 : Nat) : Int) := fun p hp => by
      have := h.sm p hp
      omega
    simp only [PlS.two] at hp
    cases h6 : eqI t.kind 6 with
    | false => rw [h6] at hp; exact old p hp
    | true =>
      rw [h6] at hp
      simp only [cond_true, List.mem_append, List.mem_singleton] at hp
      rcases hp with hp | rfl
      . exact old p hp
      . have h6 : t.kind = 6 := of_decide_eq_true h6
        obtain ⟨_, _, b0, b1, _⟩ := ht
        have h0 := b0 (by omega)
        have h1 := b1 (by omega)
        unfold okV at h0 h1
        simp only
        omega
theorem Gate.good {g : Nat} {s s' : PlS} (hg : Gate s s') (hi : PlI g s) (h : GdI s) : GdI s' := by
  cases hg with
  | mul n x y k hx hy hk => exact h.two n _ (zt9 (by omega) (by omega) (by omega) (zdL (by omega)))
  | bool n k hk => exact h.two n _ (zrx (by omega))
  | pow n x hx => exact h.two n _ (zua (by omega) (by omega))
  | next n x y hx hy => exact h.two n _ (zry (by omega) (by omega) (by omega))
  | same n x hx => exact h.two n _ (zrz (by omega) (by omega))
  | pub n x hx hp =>
    refine ⟨fun r hr => ?_, h.rw, h.sm⟩
    simp only [List.mem_append, List.mem_singleton] at hr
    rcases hr with hr | rfl
    . exact h.pb r hr
    . exact ⟨x, hx, rfl⟩
  | skip n => exact ⟨h.pb, h.rw, h.sm⟩
  | no n x hx =>
    refine ⟨h.pb, fun r hr => ?_, h.sm⟩
    simp only [List.mem_append] at hr
    rcases hr with hr | hr
    . exact h.rw r hr
    . exact zfp (V := (s.vs.length : Int)) (by omega) (zzd (by omega)) r hr
theorem Plays.keep {P : PlS -> Prop} (hP : ∀ g s s', PlI g s -> Gate s s' -> P s -> P s') : ∀ {s s' : PlS}, Plays s s' -> ∀ g, PlI g s -> P s -> P s' := by
  intro s s' h
  induction h with
  | refl s => exact fun _ _ h => h
  | step h1 _ ih => exact fun g hi h => ih (g + 1) (h1.inv hi) (hP g _ _ hi h1 h)
theorem zty {V : Int} {x : Nat} (h : (x : Int) < V) : zku V (zdA x) := zfp (by omega) (zub h) _ (List.mem_singleton.2 rfl)
theorem zod (r : Row) : zaO r r = true := by
  unfold zaO
  simp [eqI]
theorem zoe {x : Nat} : zfO (zdA x) = false := by
  unfold zfO
  rw [show (zdA (x : Int)).w0 = (x : Int) from rfl, zad (by omega), zod]
  rfl
theorem zm4 {P : Int} : ∀ (l : List Row) (i : Nat), (∀ r ∈ l, lowR r = false) -> (∀ (j : Nat) (r : Row), l[j]? = some r -> ((i + j : Nat) : Int) < P -> zfO r = false) -> zfQ P i l = false
  | [], _, _, _ => rfl
  | r :: l, i, h1, h2 => by
    unfold zfQ
    rw [h1 r List.mem_cons_self, zm4 l (i + 1) (fun r hr => h1 r (List.mem_cons_of_mem _ hr)) fun j x hx hj => h2 (j + 1) x (by simpa using hx) (by omega)]
    by_cases hi : (i : Int) < P
    . rw [h2 0 r rfl (by simpa using hi)]
      cases ltI (i : Int) P <;> rfl
    . rw [zad hi]; rfl
theorem ztz {g : Nat} {s : PlS} (hi : PlI g s) (hg : g <= 14) (h : GdI s) : GoodCirc (s.pb.length : Int) (s.vs.length : Int) (s.pb ++ s.rw) s.sm := by
  have hv2 := hi.v2; have hv := hi.v; have hpp := hi.pp; have hp3 := hi.p; have hr := hi.r; have hm := hi.m
  have hall : ∀ r ∈ s.pb ++ s.rw, zku (s.vs.length : Int) r := fun r hr => by
    rcases List.mem_append.1 hr with hr | hr
    . obtain ⟨x, hx, rfl⟩ := h.pb r hr
      exact zty (by omega)
    . exact h.rw r hr
  refine ⟨by omega, by omega, by omega, by omega, by simp; omega, by omega, by simp; omega, ?_, ?_, ?_, ?_⟩
  . exact List.any_eq_false.2 fun r hr => by rw [(hall r hr).1]; simp
  . exact List.any_eq_false.2 fun r hr => by rw [(hall r hr).2.1]; simp
  . refine List.any_eq_false.2 fun p hp => ?_
    have := h.sm p hp
    unfold unkP
    rw [zad (by omega), zaH (by omega), zad (by omega), zaH (by omega)]
    simp
  . refine zm4 _ _ (fun r hr => (hall r hr).2.2) fun j r hr hj => ?_
    have hlt : j < s.pb.length := by omega
    rw [List.getElem?_append_left hlt] at hr
    obtain ⟨x, hx, rfl⟩ := h.pb r (List.mem_of_getElem? hr)
    exact zoe
theorem zof (n a b : Nat) : GdI (zmc n a b) := ⟨fun r h => (by cases h), fun r h => (by cases h), fun p h => (by cases h)⟩
theorem ztA {N most : Nat} (hN : 2000 <= N) (hmo : most <= 14) (l : List UInt8) :
    ∃ n a b s g, a < 200 /\ b < 2 /\ g <= most /\ Plays (zmc n a b) s /\ PlI g s /\ GdI s /\ GoodCirc (s.pb.length : Int) (s.vs.length : Int) (s.pb ++ s.rw) s.sm /\ q95 N l (most : Int) = some (s.res, ()) := by
  obtain ⟨n, a, b, s, g, ha, hb, hg, hp, hi, e⟩ := zze hN hmo l
  have hgood : GdI s := Plays.keep (P := GdI) (fun g s s' hi hg h => hg.good hi h) hp 0 (zkt ha hb) (zof n a b)
  exact ⟨n, a, b, s, g, ha, hb, hg, hp, hi, hgood, ztz hi (by omega) hgood, e⟩
end
section
def nzF (x : Fr) : Nat := cond (eqF x ⟨0, 0, 0, 0⟩) 0 32
def nzL : List Fr -> Nat
  | [] => 0
  | x :: l => nzF x + nzL l
def rowQ (r : Row) : List Fr := [r.q0, r.q1, r.q2, r.q3, r.q4, r.q5, r.q6, r.q7]
def zcA : List Row -> Nat
  | [] => 0
  | r :: l => 4 + nzL (rowQ r) + zcA l
theorem zdW (x : Fr) : nzF x <= 32 := by unfold nzF; cases eqF x ⟨0, 0, 0, 0⟩ <;> simp
theorem zrB : ∀ l : List Fr, nzL l <= 32 * l.length
  | [] => Nat.le_refl _
  | x :: l => by have := zdW x; have := zrB l; simp only [nzL, List.length_cons]; omega
theorem zij : ∀ l : List Row, zcA l <= 300 * l.length
  | [] => Nat.le_refl _
  | r :: l => by have := zrB (rowQ r); have := zij l; simp only [zcA, List.length_cons]; simp [rowQ] at *; omega
theorem ztB {ts : List Fr} {k : Nat} (hk : k < ts.length) : nzL (ts.drop k) = nzF (ts.getD k Fr.zero) + nzL (ts.drop (k + 1)) := by
  rw [List.drop_eq_getElem_cons hk, List.getD_eq_getElem?_getD, List.getElem?_eq_getElem hk]
  rfl
abbrev Lp6 := (List Row) -> Int -> Int -> Int -> Int -> (List Row) -> (List Pr) -> (List UInt8) -> Option (List UInt8 × Int × Unit)
theorem zzf (A6 : Lp6) (n : Nat) (mk : UInt8) (t37 : List Row) (t38 t39 : Int) {ts : List Fr} (h8 : ts.length = 8) {k : Nat} (hk : k < 8) (c0 v1 : Int) (v2 : List Row) (v3 : List Pr) (out : List UInt8) (r : Row) {qs : List UInt8} (hq : qs.length < 100000) :
    ∃ mk' qs', qs'.length = qs.length + nzF (ts.getD k Fr.zero) /\ zdl 2000 A6 (n + 1) mk t37 t38 t39 ts (k : Int) c0 v1 v2 v3 out r qs = zdl 2000 A6 n mk' t37 t38 t39 ts ((k + 1 : Nat) : Int) c0 v1 v2 v3 out r qs' := by
  rw [zfM]
  unfold zfl
  rw [zae (show (k : Int) < 8 by omega), cond_true, zaw, h8, zae (show (k : Int) < ((8 : Nat) : Int) by omega), Int.toNat_natCast, zaG (by omega)]
  simp only [Bool.and_self, mst2]
  cases hz : eqF (ts.getD k Fr.zero) ⟨0, 0, 0, 0⟩ with
  | true => exact ⟨mk, qs, by unfold nzF; rw [hz]; rfl, rfl⟩
  | false =>
    obtain ⟨bs, hl, _, e, _⟩ := zwc (ts.getD k Fr.zero)
    rw [e, bsm, zay (show (qs.length + bs.length) * 1 <= 140737488355328 by omega), mst2]
    exact ⟨_, qs ++ bs, by unfold nzF; rw [hz, List.length_append, hl]; rfl, rfl⟩
theorem zzg (A6 : Lp6) (t37 : List Row) (t38 t39 : Int) {ts : List Fr} (h8 : ts.length = 8) (c0 v1 : Int) (v2 : List Row) (v3 : List Pr) {out : List UInt8} (ho : out.length < 100000) (r : Row) : ∀ (d k f : Nat) (mk : UInt8) (qs : List UInt8), k + d = 8 -> d < f -> qs.length <= 32 * k ->
    ∃ mk' qs', qs'.length = qs.length + nzL (ts.drop k) /\ zdl 2000 A6 f mk t37 t38 t39 ts (k : Int) c0 v1 v2 v3 out r qs = zdz 2000 A6 2000 t37 t38 t39 [r.w0, r.w1, r.w2] 0 c0 v1 v2 v3 (out ++ [mk'] ++ qs')
  | 0, k, f + 1, mk, qs, hk, hf, hq => by
    refine ⟨mk, qs, by rw [List.drop_of_length_le (by omega)]; rfl, ?_⟩
    rw [zfM]
    unfold zfl
    rw [zad (by omega), cond_false]
    simp only [List.length_append, List.length_cons, List.length_nil]
    rw [zay (by omega), mst2, zay (by omega), mst2]
  | d + 1, k, f + 1, mk, qs, hk, hf, hq => by
    obtain ⟨mk1, qs1, h1, e1⟩ := zzf A6 f mk t37 t38 t39 h8 (k := k) (by omega) c0 v1 v2 v3 out r (qs := qs) (by omega)
    have := zdW (ts.getD k Fr.zero)
    obtain ⟨mk2, qs2, h2, e2⟩ := zzg A6 t37 t38 t39 h8 c0 v1 v2 v3 ho r d (k + 1) f mk1 qs1 (by omega) (by omega) (by omega)
    exact ⟨mk2, qs2, by rw [h2, h1, ztB (ts := ts) (k := k) (by omega)]; omega, e1.trans e2⟩
abbrev Lp19 := (List Row) -> Int -> Int -> (List Int) -> Int -> Int -> Int -> (List Row) -> (List Pr) -> (List UInt8) -> Option (List UInt8 × Int × Unit)
theorem zzh (N : Nat) (A6 : Lp6) (A : Lp19) (t37 : List Row) (t38 t39 a b c c0 v1 : Int) (v2 : List Row) (v3 : List Pr) (out : List UInt8) : zdy N A6 A t37 t38 t39 [a, b, c] 0 c0 v1 v2 v3 out = must (leN ((out.length + 1) * 1) 140737488355328) (A t37 t38 t39 [a, b, c] 1 c0 v1 v2 v3 (out ++ [u8I a])) := by kernel_rfl
theorem zzi (N : Nat) (A6 : Lp6) (A : Lp19) (t37 : List Row) (t38 t39 a b c c0 v1 : Int) (v2 : List Row) (v3 : List Pr) (out : List UInt8) : zdy N A6 A t37 t38 t39 [a, b, c] 1 c0 v1 v2 v3 out = must (leN ((out.length + 1) * 1) 140737488355328) (A t37 t38 t39 [a, b, c] 2 c0 v1 v2 v3 (out ++ [u8I b])) := by kernel_rfl
theorem zzj (N : Nat) (A6 : Lp6) (A : Lp19) (t37 : List Row) (t38 t39 a b c c0 v1 : Int) (v2 : List Row) (v3 : List Pr) (out : List UInt8) : zdy N A6 A t37 t38 t39 [a, b, c] 2 c0 v1 v2 v3 out = must (leN ((out.length + 1) * 1) 140737488355328) (A t37 t38 t39 [a, b, c] 3 c0 v1 v2 v3 (out ++ [u8I c])) := by kernel_rfl
theorem zzk (N : Nat) (A6 : Lp6) (A : Lp19) (t37 : List Row) (t38 t39 a b c c0 v1 : Int) (v2 : List Row) (v3 : List Pr) (out : List UInt8) : zdy N A6 A t37 t38 t39 [a, b, c] 3 c0 v1 v2 v3 out = A6 t37 t38 (wr (t39 + 1)) c0 v1 v2 v3 out := by kernel_rfl
theorem zAQ (A6 : Lp6) (t37 : List Row) (t38 t39 a b c c0 v1 : Int) (v2 : List Row) (v3 : List Pr) {out : List UInt8} (ho : out.length < 1000000) : zdz 2000 A6 2000 t37 t38 t39 [a, b, c] 0 c0 v1 v2 v3 out = A6 t37 t38 (wr (t39 + 1)) c0 v1 v2 v3 (out ++ [u8I a] ++ [u8I b] ++ [u8I c]) := by
  show zdz 2000 A6 (1996 + 1 + 1 + 1 + 1) t37 t38 t39 [a, b, c] 0 c0 v1 v2 v3 out = _
  rw [zcH, zzh, zay (by omega), mst2, zcH, zzi, zay (by simp; omega), mst2, zcH, zzj, zay (by simp; omega), mst2, zcH, zzk]
theorem zkw (v3 : List Pr) (h3 : v3.length < 1000) : ∀ (l : List Pr) (i f : Nat) (out : List UInt8), v3.drop i = l -> i + l.length = v3.length -> l.length < f -> out.length < 100000 + 2 * i -> ∃ tail : List UInt8, tail.length = 2 * l.length /\ zfk 2000 f v3 (v3.length : Int) (i : Int) out = some (out ++ tail, 0, ())
  | [], i, f + 1, out, hd, hl, hf, ho => by
    refine ⟨[], rfl, ?_⟩
    rw [zfL]
    unfold zfj
    rw [zad (by simp at hl; omega), cond_false, List.append_nil]
  | x :: l, i, f + 1, out, hd, hl, hf, ho => by
    simp only [List.length_cons] at hl hf
    have hi : i < v3.length := by omega
    obtain ⟨tail, h1, e1⟩ := zkw v3 h3 l (i + 1) f (out ++ [u8I x.x, u8I x.y]) (zwj hd hi).2 (by omega) (by omega) (by simp; omega)
    refine ⟨[u8I x.x, u8I x.y] ++ tail, by simp [h1]; omega, ?_⟩
    rw [zfL]
    unfold zfj
    rw [zae (show (i : Int) < (v3.length : Int) by omega), cond_true, zaw, Int.toNat_natCast, (zwj hd hi).1, zaG (by omega)]
    simp only [Bool.and_self, mst2, List.length_cons, List.length_nil]
    rw [zay (by omega), mst2, e1, List.append_assoc]
theorem zm5 (c0 v1 : Int) (v2 : List Row) (v3 : List Pr) (h2 : v2.length <= 64) (h3 : v3.length < 1000) : ∀ (l : List Row) (i f : Nat) (out : List UInt8), v2.drop i = l -> i + l.length = v2.length -> l.length < f -> out.length <= 4 + 300 * i -> ∃ tail : List UInt8, tail.length = zcA l + 2 * v3.length /\ zfN 2000 f v2 (v2.length : Int) (i : Int) c0 v1 v2 v3 out = some (out ++ tail, 0, ())
  | [], i, f + 1, out, hd, hl, hf, ho => by
    obtain ⟨tail, h1, e1⟩ := zkw v3 h3 v3 0 2000 out rfl (by omega) (by omega) (by omega)
    refine ⟨tail, by rw [h1]; simp [zcA], ?_⟩
    rw [zg7]
    unfold zie
    rw [zad (by simp at hl; omega), cond_false]
    exact e1
  | r :: l, i, f + 1, out, hd, hl, hf, ho => by
    simp only [List.length_cons] at hl hf
    have hi : i < v2.length := by omega
    obtain ⟨mk, qs, h1, e1⟩ := zzg (zfN 2000 f) v2 (v2.length : Int) (i : Int) (ts := rowQ r) rfl c0 v1 v2 v3 (out := out) (by omega) r 8 0 2000 0 [] (by omega) (by omega) (by simp)
    have hz := zrB (rowQ r)
    have hrl : (rowQ r).length = 8 := rfl
    simp only [List.drop_zero, List.length_nil, Nat.zero_add] at h1
    have ho2 : (out ++ [mk] ++ qs).length < 1000000 := by simp only [List.length_append, List.length_cons, List.length_nil]; omega
    obtain ⟨tail, h4, e4⟩ := zm5 c0 v1 v2 v3 h2 h3 l (i + 1) f (out ++ [mk] ++ qs ++ [u8I r.w0] ++ [u8I r.w1] ++ [u8I r.w2]) (zhb hd hi).2 (by omega) (by omega) (by simp only [List.length_append, List.length_cons, List.length_nil]; omega)
    refine ⟨[mk] ++ qs ++ [u8I r.w0] ++ [u8I r.w1] ++ [u8I r.w2] ++ tail, by simp only [List.length_append, List.length_cons, List.length_nil, zcA]; omega, ?_⟩
    rw [zg7]
    unfold zie
    rw [zae (show (i : Int) < (v2.length : Int) by omega), cond_true, zaw, Int.toNat_natCast, (zhb hd hi).1]
    simp only [Bool.and_self, mst2]
    refine (show _ = zdl 2000 (zfN 2000 f) 2000 0 v2 (v2.length : Int) (i : Int) (rowQ r) ((0 : Nat) : Int) c0 v1 v2 v3 out r [] from rfl).trans (e1.trans ?_)
    rw [zAQ _ _ _ _ _ _ _ _ _ _ _ ho2, zaG (by omega), e4]
    simp only [List.append_assoc]
theorem zwu {c0 v1 : Int} {v2 : List Row} {v3 : List Pr} (h : GoodCirc c0 v1 v2 v3) : ∃ tail : List UInt8, tail.length = zcA v2 + 2 * v3.length /\ q139 2000 c0 v1 v2 v3 = some ([u8I c0, u8I v1, u8I (v2.length : Int), u8I (v3.length : Int)] ++ tail, 0, ()) := by
  have h2 := h.rows; have h3 := h.same
  obtain ⟨tail, h4, e4⟩ := zm5 c0 v1 v2 v3 h2 (by omega) v2 0 2000 [u8I c0, u8I v1, u8I (v2.length : Int), u8I (v3.length : Int)] rfl (by omega) (by omega) (by simp)
  refine ⟨tail, h4, ?_⟩
  unfold q139
  rw [zwo (N := 2000) (Nat.le_refl _) c0 v1 v2 v3 (by omega) (by omega), bsm, h.may, za8 rfl, Bool.not_true, cond_false]
  exact e4
abbrev Lp38 := Int -> Int -> Int -> Int -> (List Row) -> (List Pr) -> Option (Bool × Unit)
abbrev zeR := Int -> Int -> Int -> Int -> Int -> (List Row) -> (List Pr) -> Option (Bool × Unit)
theorem zAR (N : Nat) (A8 : Lp38) (A : zeR) (n i c0 v1 : Int) (v2 : List Row) (v3 : List Pr) : zcX N A8 A n i 0 c0 v1 v2 v3 = must (leI 0 i && ltI i (v2.length : Int)) (cond (!eqF (v2.getD i.toNat zrow).q0 ⟨0, 0, 0, 0⟩) (A (wr (n + 32)) i 1 c0 v1 v2 v3) (A n i 1 c0 v1 v2 v3)) := by kernel_rfl
theorem zAS (N : Nat) (A8 : Lp38) (A : zeR) (n i c0 v1 : Int) (v2 : List Row) (v3 : List Pr) : zcX N A8 A n i 1 c0 v1 v2 v3 = must (leI 0 i && ltI i (v2.length : Int)) (cond (!eqF (v2.getD i.toNat zrow).q1 ⟨0, 0, 0, 0⟩) (A (wr (n + 32)) i 2 c0 v1 v2 v3) (A n i 2 c0 v1 v2 v3)) := by kernel_rfl
theorem zAT (N : Nat) (A8 : Lp38) (A : zeR) (n i c0 v1 : Int) (v2 : List Row) (v3 : List Pr) : zcX N A8 A n i 2 c0 v1 v2 v3 = must (leI 0 i && ltI i (v2.length : Int)) (cond (!eqF (v2.getD i.toNat zrow).q2 ⟨0, 0, 0, 0⟩) (A (wr (n + 32)) i 3 c0 v1 v2 v3) (A n i 3 c0 v1 v2 v3)) := by kernel_rfl
theorem zAU (N : Nat) (A8 : Lp38) (A : zeR) (n i c0 v1 : Int) (v2 : List Row) (v3 : List Pr) : zcX N A8 A n i 3 c0 v1 v2 v3 = must (leI 0 i && ltI i (v2.length : Int)) (cond (!eqF (v2.getD i.toNat zrow).q3 ⟨0, 0, 0, 0⟩) (A (wr (n + 32)) i 4 c0 v1 v2 v3) (A n i 4 c0 v1 v2 v3)) := by kernel_rfl
theorem zAV (N : Nat) (A8 : Lp38) (A : zeR) (n i c0 v1 : Int) (v2 : List Row) (v3 : List Pr) : zcX N A8 A n i 4 c0 v1 v2 v3 = must (leI 0 i && ltI i (v2.length : Int)) (cond (!eqF (v2.getD i.toNat zrow).q4 ⟨0, 0, 0, 0⟩) (A (wr (n + 32)) i 5 c0 v1 v2 v3) (A n i 5 c0 v1 v2 v3)) := by kernel_rfl
theorem zAW (N : Nat) (A8 : Lp38) (A : zeR) (n i c0 v1 : Int) (v2 : List Row) (v3 : List Pr) : zcX N A8 A n i 5 c0 v1 v2 v3 = must (leI 0 i && ltI i (v2.length : Int)) (cond (!eqF (v2.getD i.toNat zrow).q5 ⟨0, 0, 0, 0⟩) (A (wr (n + 32)) i 6 c0 v1 v2 v3) (A n i 6 c0 v1 v2 v3)) := by kernel_rfl
theorem zAX (N : Nat) (A8 : Lp38) (A : zeR) (n i c0 v1 : Int) (v2 : List Row) (v3 : List Pr) : zcX N A8 A n i 6 c0 v1 v2 v3 = must (leI 0 i && ltI i (v2.length : Int)) (cond (!eqF (v2.getD i.toNat zrow).q6 ⟨0, 0, 0, 0⟩) (A (wr (n + 32)) i 7 c0 v1 v2 v3) (A n i 7 c0 v1 v2 v3)) := by kernel_rfl
theorem zAY (N : Nat) (A8 : Lp38) (A : zeR) (n i c0 v1 : Int) (v2 : List Row) (v3 : List Pr) : zcX N A8 A n i 7 c0 v1 v2 v3 = must (leI 0 i && ltI i (v2.length : Int)) (cond (!eqF (v2.getD i.toNat zrow).q7 ⟨0, 0, 0, 0⟩) (A (wr (n + 32)) i 8 c0 v1 v2 v3) (A n i 8 c0 v1 v2 v3)) := by kernel_rfl
theorem zAZ (N : Nat) (A8 : Lp38) (A : zeR) (n i c0 v1 : Int) (v2 : List Row) (v3 : List Pr) : zcX N A8 A n i 8 c0 v1 v2 v3 = A8 n (wr (i + 1)) c0 v1 v2 v3 := by kernel_rfl
theorem zdB {R : Type} (x : Fr) (n : Nat) (hn : n < 1000000) (f : Int -> R) : cond (!eqF x ⟨0, 0, 0, 0⟩) (f (wr ((n : Int) + 32))) (f (n : Int)) = f ((n + nzF x : Nat) : Int) := by
  unfold nzF
  cases eqF x ⟨0, 0, 0, 0⟩ with
  | true => rfl
  | false =>
    show f (wr ((n : Int) + 32)) = f ((n + 32 : Nat) : Int)
    rw [zbN (by omega) (by omega)]
    congr 1
theorem zzl (A8 : Lp38) (n i : Nat) (hn : n < 900000) (c0 v1 : Int) (v2 : List Row) (v3 : List Pr) (hi : i < v2.length) (h2 : v2.length <= 64) : zcz 2000 A8 2000 (n : Int) (i : Int) 0 c0 v1 v2 v3 = A8 ((n + nzL (rowQ (v2.getD i zrow)) : Nat) : Int) ((i + 1 : Nat) : Int) c0 v1 v2 v3 := by
  have hm : (leI 0 (i : Int) && ltI (i : Int) (v2.length : Int)) = true := by rw [zaw, zae (by omega)]; rfl
  have hz := zdW (v2.getD i zrow).q0; have hz1 := zdW (v2.getD i zrow).q1; have hz2 := zdW (v2.getD i zrow).q2; have hz3 := zdW (v2.getD i zrow).q3
  have hz4 := zdW (v2.getD i zrow).q4; have hz5 := zdW (v2.getD i zrow).q5; have hz6 := zdW (v2.getD i zrow).q6; have hz7 := zdW (v2.getD i zrow).q7
  show zcz 2000 A8 (1991 + 1 + 1 + 1 + 1 + 1 + 1 + 1 + 1 + 1) (n : Int) (i : Int) 0 c0 v1 v2 v3 = _
  rw [za9, zAR, hm, mst2, Int.toNat_natCast, zdB _ (n) (by omega) fun z => zcz 2000 A8 _ z (i : Int) 1 c0 v1 v2 v3]
  rw [za9, zAS, hm, mst2, Int.toNat_natCast, zdB _ (n + nzF (v2.getD i zrow).q0) (by omega) fun z => zcz 2000 A8 _ z (i : Int) 2 c0 v1 v2 v3]
  rw [za9, zAT, hm, mst2, Int.toNat_natCast, zdB _ (n + nzF (v2.getD i zrow).q0 + nzF (v2.getD i zrow).q1) (by omega) fun z => zcz 2000 A8 _ z (i : Int) 3 c0 v1 v2 v3]
  rw [za9, zAU, hm, mst2, Int.toNat_natCast, zdB _ (n + nzF (v2.getD i zrow).q0 + nzF (v2.getD i zrow).q1 + nzF (v2.getD i zrow).q2) (by omega) fun z => zcz 2000 A8 _ z (i : Int) 4 c0 v1 v2 v3]
  rw [za9, zAV, hm, mst2, Int.toNat_natCast, zdB _ (n + nzF (v2.getD i zrow).q0 + nzF (v2.getD i zrow).q1 + nzF (v2.getD i zrow).q2 + nzF (v2.getD i zrow).q3) (by omega) fun z => zcz 2000 A8 _ z (i : Int) 5 c0 v1 v2 v3]
  rw [za9, zAW, hm, mst2, Int.toNat_natCast, zdB _ (n + nzF (v2.getD i zrow).q0 + nzF (v2.getD i zrow).q1 + nzF (v2.getD i zrow).q2 + nzF (v2.getD i zrow).q3 + nzF (v2.getD i zrow).q4) (by omega) fun z => zcz 2000 A8 _ z (i : Int) 6 c0 v1 v2 v3]
  rw [za9, zAX, hm, mst2, Int.toNat_natCast, zdB _ (n + nzF (v2.getD i zrow).q0 + nzF (v2.getD i zrow).q1 + nzF (v2.getD i zrow).q2 + nzF (v2.getD i zrow).q3 + nzF (v2.getD i zrow).q4 + nzF (v2.getD i zrow).q5) (by omega) fun z => zcz 2000 A8 _ z (i : Int) 7 c0 v1 v2 v3]
  rw [za9, zAY, hm, mst2, Int.toNat_natCast, zdB _ (n + nzF (v2.getD i zrow).q0 + nzF (v2.getD i zrow).q1 + nzF (v2.getD i zrow).q2 + nzF (v2.getD i zrow).q3 + nzF (v2.getD i zrow).q4 + nzF (v2.getD i zrow).q5 + nzF (v2.getD i zrow).q6) (by omega) fun z => zcz 2000 A8 _ z (i : Int) 8 c0 v1 v2 v3]
  rw [za9, zAZ, zaG (by omega)]
  congr 2
  simp only [rowQ, nzL]
  omega
theorem zf6 {n : Int} (h0 : 0 <= n) (h : n < 256) : ((u8I n).toNat : Int) = n := by
  unfold u8I
  obtain ⟨k, rfl⟩ := Int.eq_ofNat_of_zero_le h0
  have e : ((k : Int) % 256).toNat = k := by omega
  rw [e]
  simp
  omega
theorem zrC {c0 v1 : Int} {v2 : List Row} {v3 : List Pr} (h : GoodCirc c0 v1 v2 v3) : ∀ (l : List Row) (i f n : Nat), v2.drop i = l -> i + l.length = v2.length -> l.length < f -> n + zcA l = 4 + 2 * v3.length + zcA v2 -> zl9 2000 f (n : Int) (i : Int) c0 v1 v2 v3 = some (true, ())
  | [], i, f + 1, n, hd, hl, hf, hn => by
    have h2 := h.rows; have h3 := h.same; have p0 := h.p0; have p8 := h.p8; have v0 := h.v0; have v200 := h.v200
    obtain ⟨tail, h4, e4⟩ := zwu h
    rw [zih]
    unfold zoc
    rw [zad (by simp at hl; omega), cond_false, e4]
    simp only [bsm]
    have hlen : ([u8I c0, u8I v1, u8I (v2.length : Int), u8I (v3.length : Int)] ++ tail).length = n := by
      simp only [zcA] at hn
      simp only [List.length_append, List.length_cons, List.length_nil, h4]
      omega
    rw [hlen, za8 rfl, za8 rfl, cond_true, cond_true]
    have hn4 : 4 <= n := by rw [← hlen]; simp
    rw [zae (show (0 : Int) < (n : Int) by omega), mst2, zae (show (1 : Int) < (n : Int) by omega), mst2, zae (show (2 : Int) < (n : Int) by omega), mst2, zae (show (3 : Int) < (n : Int) by omega), mst2]
    show cond (eqI ((u8I c0).toNat : Int) c0) (cond (eqI ((u8I v1).toNat : Int) v1) (cond (eqI ((u8I (v2.length : Int)).toNat : Int) (v2.length : Int)) (some (eqI ((u8I (v3.length : Int)).toNat : Int) (v3.length : Int), ())) (some (false, ()))) (some (false, ()))) (some (false, ())) = some (true, ())
    rw [zf6 p0 (by omega), zf6 v0 (by omega), zf6 (by omega) (by omega), zf6 (by omega) (by omega), za8 rfl, za8 rfl, za8 rfl, za8 rfl]
    rfl
  | r :: l, i, f + 1, n, hd, hl, hf, hn => by
    have h2 := h.rows; have h3 := h.same
    have hb := zij v2
    simp only [List.length_cons] at hl hf
    have hi : i < v2.length := by omega
    have ih := zrC h l (i + 1) f (n + 4 + nzL (rowQ r)) (zhb hd hi).2 (by omega) (by omega) (by simp only [zcA] at hn; omega)
    rw [zih]
    unfold zoc
    have e0 : wr ((n : Int) + 4) = ((n + 4 : Nat) : Int) := by rw [zbN (by omega) (by omega)]; omega
    rw [zae (show (i : Int) < (v2.length : Int) by omega), cond_true, e0, zzl _ _ _ (by omega) _ _ _ _ hi h2, (zhb hd hi).1]
    exact ih
end
section
set_option maxRecDepth 100000 in
theorem zwv : q138 2000 = some (true, ()) := by kernel_rfl
theorem zrD (l : List UInt8) : q38 2000 l = some (true, ()) := by
  unfold q38
  rw [zwv, bsm]
  simp only [Bool.not_true, cond_false]
  cases h80 : ltI (80 : Int) (l.length : Int) with
  | true => rfl
  | false =>
    rw [cond_false]
    obtain ⟨n, a, b, s, g, ha, hb, hg, hp, hi, hgd, hgood, e⟩ := ztA (N := 2000) (most := 14) (Nat.le_refl _) (Nat.le_refl _) l
    rw [show ((14 : Nat) : Int) = 14 from rfl] at e
    rw [e, bsm]
    have hs := hgood.same
    show zl9 2000 2000 (wr (4 + wr (2 * (s.sm.length : Int)))) 0 (s.pb.length : Int) (s.vs.length : Int) (s.pb ++ s.rw) s.sm = _
    have e1 : wr (4 + wr (2 * (s.sm.length : Int))) = ((4 + 2 * s.sm.length : Nat) : Int) := by
      rw [zbN (x := 2 * (s.sm.length : Int)) (by omega) (by omega), zbN (by omega) (by omega)]; omega
    rw [e1]
    have hr := hgood.rows
    exact zrC hgood (s.pb ++ s.rw) 0 2000 _ rfl (by omega) (by omega) rfl
end
section
open Go.ChangeShapes Go.WideShapes Go.ChangeAt Go.RowKit
def zww (P : Program) (k : K) (t : TypeId) : Prop :=
  ∀ (H : Type) (enc : TypeId × Value -> H) (W : World) (base : Nat) (v : Value) (d : DataW H) (p : List MemPlace), Value.okWide P W .any base t v -> DataW.Trod enc P W 0 (fun _ => true) true t v d p ->
    ∃ x : k.T, zhw W (fun b => b < W.heap.size) (k.enc x) v
theorem zhe {P : Program} {H : Type} {enc : TypeId × Value -> H} {W : World} {base : Nat} {sp : Nat -> Bool} {hd : Bool} : ∀ {ts : List TypeId} {vs : List Value} {ds : List (DataW H)} {p : List MemPlace}, DataW.TrodAll enc P W base sp hd ts vs ds p -> ds.length = ts.length
  | [], [], [], _, _ => rfl
  | _ :: _, _ :: _, _ :: _, _, ⟨_, _, _, h, _⟩ => by simp [zhe h]
  | [], _ :: _, _, _, h => by cases h
  | [], [], _ :: _, _, h => by cases h
  | _ :: _, [], _, _, h => by cases h
  | _ :: _, _ :: _, [], _, h => by cases h
structure NumEl where
  e : El
  k : IntKind
  of : Int -> e.T
  one : e.size = 1
  val : ∀ n, (Lit.int k n).wf = true -> ∃ c, e.toC (of n) = [c] /\ c.val = some (.int k n)
def zA0 : NumEl := ⟨.u8, .u8, fun n => UInt8.ofNat n.toNat, rfl, fun n hw => ⟨_, rfl, by
  have := bounds_u8 hw
  simp only [C.val, Option.some.injEq, Value.int.injEq, true_and]
  rw [UInt8.toNat_ofNat']
  omega⟩⟩
theorem zkx (m : NumEl) (zs : List Int) (hw : ∀ n ∈ zs, (Lit.int m.k n).wf = true) (j : Nat) (c : C) (h : (flat m.e (zs.map m.of))[j]? = some c) : j < zs.length /\ c.val = some (.int m.k (zs.getD j 0)) := by
  induction zs generalizing j with
  | nil => simp [flat] at h
  | cons z zs ih =>
    obtain ⟨c0, h1, h2⟩ := m.val z (hw z (by simp))
    simp only [List.map_cons, flat, h1] at h
    cases j with
    | zero =>
      simp at h
      subst h
      exact ⟨by simp, by simpa using h2⟩
    | succ j =>
      simp at h
      obtain ⟨h3, h4⟩ := ih (fun n hn => hw n (by simp [hn])) j h
      exact ⟨by simpa using h3, by simpa using h4⟩
theorem zmd {P : Program} {t e : TypeId} (m : NumEl) (ht : P.underlying t = some (.slice e)) (he : P.underlying e = some (.int m.k)) (hc : P.cellsOf e = 1) : zww P (K.ro m.e) t := fun H enc W base v d p hv h => by
  obtain ⟨ad, n, c, rfl⟩ := okWide_slice ht hv
  obtain ⟨fuel, hf⟩ := h
  rcases open_ints ht he hc hf with ⟨hcs, _⟩ | ⟨a, len, cap, zs, hcs, _, h1, h2, h3, _, h5, h6⟩
  . simp [Value.cells] at hcs
    obtain ⟨rfl, rfl, rfl⟩ := hcs
    exact ⟨[], .emp⟩
  . simp [Value.cells] at hcs
    obtain ⟨rfl, rfl, rfl⟩ := hcs
    simp only [if_true] at h3
    cases hn : n with
    | zero => exact ⟨[], .emp⟩
    | succ n' =>
      have hlen : ((zs.take n).map m.of).length = n := by simp; omega
      have h0 := h5 0 (by omega)
      have hspot : a.spot = none /\ a.block < W.heap.size := by
        have e0 : a.add 0 = a := by simp [Addr.add]
        rw [e0] at h0
        unfold World.cell? at h0
        split at h0
        . rename_i cs _ _ hb
          refine ⟨?_, (Array.getElem?_eq_some_iff.1 hb).1⟩
          cases hs : a.spot with
          | none => rfl
          | some q => rw [hs] at h0; simp at h0
        . cases h0
      obtain ⟨b, off, spot⟩ := a
      obtain ⟨hs, hb⟩ := hspot
      simp only at hs hb
      subst hs
      have hw : ∀ z ∈ zs.take n, (Lit.int m.k z).wf = true := fun z hz => h6 z (List.mem_of_mem_take hz)
      refine ⟨(zs.take n).map m.of, ?_⟩
      have := Holds.ro (w := W) (ok := fun b => b < W.heap.size) (e := m.e) (l := (zs.take n).map m.of) (b := b) (off := off) (cap := c) (fun j => .int m.k (zs.getD j 0)) (by rw [hlen]; exact h1) h2 hb (fun j c' hj => ?_) (fun j c' hj => ?_)
      . rw [hlen] at this
        rw [← hn]
        exact this
      . obtain ⟨q1, q2⟩ := zkx m _ hw j c' hj
        have := h5 j (by rw [List.length_take] at q1; omega)
        rw [zaM] at this
        exact this
      . obtain ⟨q1, q2⟩ := zkx m _ hw j c' hj
        rw [List.length_take] at q1
        refine .sc ?_
        rw [q2]
        congr 2
        simp only [List.getD_eq_getElem?_getD, List.getElem?_take]
        rw [if_pos (by omega)]
theorem ztC {P : Program} (hlaid : laidOutB P = true) {H : Type} {enc : TypeId × Value -> H} {fn : Func} {s : ChangeSpec} {apart fresh : Bool} {W W' : World} {args : Array Value} {ds gs : List (DataW H)} {before : List MemPlace} {tb : TypeId}
    (hread : ∀ t ∈ fn.params.toList, P.readableRec t = true /\ t < P.types.size) (hvars : s.vars = []) (hres : fn.resultTypes = #[tb]) (htb : P.underlying tb = some .bool)
    (hspec : s.fn H (ds ++ []) = { results := [.lit (.bool true)], args := ds })
    (hW : DataW.Whole enc P fn.params.toList s.vars apart W args.toList ds gs before) (hk : Kept W W') : s.post enc P fn apart fresh false false W args (.bool true) W' := by
  have hW' := hW
  obtain ⟨p, q, hA, hV, rfl, hz, hn⟩ := hW'
  rw [hvars] at hV
  obtain ⟨rfl, rfl⟩ := trodVars_none hV
  have hlt : ∀ x ∈ p, x.block < W.heap.size := fun x hx => hW.lt x (by simp [hx])
  have hbelow : Below W.heap.size W W' := ⟨hk.os, hk.tape, hk.output, hk.size, hk.block⟩
  have hargs : ∀ {ts : List TypeId} {vs : List Value} {ds : List (DataW H)} {p : List MemPlace}, (∀ t ∈ ts, P.readableRec t = true /\ t < P.types.size) -> DataW.TrodAll enc P W 0 (fun _ => true) true ts vs ds p -> (∀ x ∈ p, x.block < W.heap.size) ->
      DataW.TrodAll enc P W' 0 (fun b => decide (b < W.heap.size)) true ts vs ds p := by
    intro ts
    induction ts with
    | nil => intro vs ds p _ h _; cases vs <;> cases ds <;> first | exact h | exact h.elim
    | cons t ts ih =>
      intro vs ds p hr h hl
      cases vs with
      | nil => cases ds <;> exact h.elim
      | cons v vs => cases ds with
        | nil => exact h.elim
        | cons d ds =>
          obtain ⟨p1, q1, h1, h2, rfl⟩ := h
          exact ⟨p1, q1, Below.trod hlaid (hr t (by simp)).1 (hr t (by simp)).2 h1 hbelow (fun x hx => hl x (by simp [hx])), ih (fun t ht => hr t (by simp [ht])) h2 (fun x hx => hl x (by simp [hx])), rfl⟩
  have hkeep : W.keptBut W' (fun _ => False) := by
    refine ⟨hk.os, hk.output, fun i hi => ?_⟩
    rw [hk.block i hi]
    cases hb : W.heap[i]? with
    | none => trivial
    | some o => cases o <;> simp
  refine ⟨ds, [], p ++ [], [], p, [], hW, ?_, ?_, ?_, World.keptBut_mono (fun _ h => h.elim) hkeep, fun h => by cases h⟩
  . rw [hspec, hres]
    refine ⟨[], [], ⟨1, ?_⟩, rfl, rfl⟩
    simp [DataW.trod, htb, Value.cells, Value.resultList]
  . rw [hspec]
    exact hargs hread hA hlt
  . rw [hspec, hvars]
    rfl
end
end Go.Proofs.Ytgimohchocjgcaa.V
