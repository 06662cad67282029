import Derived.Test.YtgimohchocjgcaaVWB13
import Derived.KernelRfl
set_option linter.unusedVariables false
set_option linter.unusedSimpArgs false
namespace Go.Proofs.Ytgimohchocjgcaa.V
section
def okV (kd V v : Int) : Prop := v < V /\ (0 <= v \/ kd = 2)
def ScS (s : Stp) : Prop := Sc s.q0 /\ Sc s.q1 /\ Sc s.q2 /\ Sc s.q3 /\ Sc s.q4
def okS (V : Int) (s : Stp) : Prop := (1 <= s.kind /\ s.kind <= 7) /\ ScS s /\ (1 < s.kind -> okV s.kind V s.v0) /\ (s.kind = 2 \/ s.kind = 5 \/ s.kind = 6 -> okV s.kind V s.v1) /\ (s.kind = 2 \/ s.kind = 4 \/ s.kind = 5 -> okV s.kind V s.v2)
def one1 : Fr := ⟨1, 0, 0, 0⟩
def zaF (s : Stp) : List Row :=
  cond (eqI s.kind 2) [⟨s.q0, s.q1, s.q2, s.q3, s.q4, .zero, .zero, .zero, mxI s.v0 (-1), mxI s.v1 (-1), mxI s.v2 (-1)⟩]
    (cond (eqI s.kind 3) [⟨.zero, .zero, .zero, .zero, .zero, one1, .zero, .zero, s.v0, -1, -1⟩]
      (cond (eqI s.kind 4) [⟨.zero, .zero, .zero, .zero, .zero, .zero, one1, .zero, s.v0, -1, s.v2⟩]
        (cond (eqI s.kind 5) [⟨.zero, .zero, .zero, .zero, .zero, .zero, .zero, one1, s.v0, s.v1, -1⟩, ⟨.zero, .zero, .zero, .zero, .zero, .zero, .zero, .zero, s.v2, -1, -1⟩]
          (cond (eqI s.kind 7) [zcC s.v0] []))))
theorem zuF (M : Nat) (v0 v1 v2 : Int) (q0 q1 q2 q3 q4 : Fr) : q197 (M + 8) ⟨1, v0, v1, v2, q0, q1, q2, q3, q4⟩ = some (zaF ⟨1, v0, v1, v2, q0, q1, q2, q3, q4⟩, 0, ()) := by kernel_rfl
theorem zuG (M : Nat) (v0 v1 v2 : Int) (q0 q1 q2 q3 q4 : Fr) : q197 (M + 8) ⟨2, v0, v1, v2, q0, q1, q2, q3, q4⟩ = some (zaF ⟨2, v0, v1, v2, q0, q1, q2, q3, q4⟩, 0, ()) := by kernel_rfl
theorem zuH (M : Nat) (v0 v1 v2 : Int) (q0 q1 q2 q3 q4 : Fr) : q197 (M + 8) ⟨3, v0, v1, v2, q0, q1, q2, q3, q4⟩ = some (zaF ⟨3, v0, v1, v2, q0, q1, q2, q3, q4⟩, 0, ()) := by kernel_rfl
theorem zuI (M : Nat) (v0 v1 v2 : Int) (q0 q1 q2 q3 q4 : Fr) : q197 (M + 8) ⟨4, v0, v1, v2, q0, q1, q2, q3, q4⟩ = some (zaF ⟨4, v0, v1, v2, q0, q1, q2, q3, q4⟩, 0, ()) := by kernel_rfl
theorem zuJ (M : Nat) (v0 v1 v2 : Int) (q0 q1 q2 q3 q4 : Fr) : q197 (M + 8) ⟨5, v0, v1, v2, q0, q1, q2, q3, q4⟩ = some (zaF ⟨5, v0, v1, v2, q0, q1, q2, q3, q4⟩, 0, ()) := by kernel_rfl
theorem zuK (M : Nat) (v0 v1 v2 : Int) (q0 q1 q2 q3 q4 : Fr) : q197 (M + 8) ⟨6, v0, v1, v2, q0, q1, q2, q3, q4⟩ = some (zaF ⟨6, v0, v1, v2, q0, q1, q2, q3, q4⟩, 0, ()) := by kernel_rfl
theorem zuL (M : Nat) (v0 v1 v2 : Int) (q0 q1 q2 q3 q4 : Fr) : q197 (M + 8) ⟨7, v0, v1, v2, q0, q1, q2, q3, q4⟩ = some (zaF ⟨7, v0, v1, v2, q0, q1, q2, q3, q4⟩, 0, ()) := by kernel_rfl
theorem zsv {N : Nat} (hN : 100 <= N) {s : Stp} (h : 1 <= s.kind /\ s.kind <= 7) : q197 N s = some (zaF s, 0, ()) := by
  obtain ⟨M, rfl⟩ : ∃ M, N = M + 8 := ⟨N - 8, by omega⟩
  obtain ⟨k, v0, v1, v2, q0, q1, q2, q3, q4⟩ := s
  simp only at h
  have hk : k = 1 \/ k = 2 \/ k = 3 \/ k = 4 \/ k = 5 \/ k = 6 \/ k = 7 := by omega
  rcases hk with rfl | rfl | rfl | rfl | rfl | rfl | rfl
  . exact zuF ..
  . exact zuG ..
  . exact zuH ..
  . exact zuI ..
  . exact zuJ ..
  . exact zuK ..
  . exact zuL ..
def svar : Stp := ⟨1, 0, 0, 0, .zero, .zero, .zero, .zero, .zero⟩
theorem zsw (V : Int) : okS V svar := ⟨⟨by decide, by decide⟩, ⟨zav, zav, zav, zav, zav⟩, fun h => absurd h (by decide), fun h => absurd h (by decide), fun h => absurd h (by decide)⟩
end
section
structure PlS where
  n : Nat
  pv : List Fr
  vs : List Fr
  st : List Stp
  pb : List Row
  rw : List Row
  sm : List Pr
def zoH (n : Nat) : Fr := ⟨u64I (n : Int), 0, 0, 0⟩
def five : Fr := ⟨5, 0, 0, 0⟩
def fneg (a : Fr) : Fr := frN ((RR - fv a) % RR)
def PlS.val (s : PlS) (x : Nat) : Fr := s.vs.getD x Fr.zero
def PlS.two (s : PlS) (n : Nat) (c : Fr) (t : Stp) : PlS := ⟨n, s.pv, s.vs ++ [c], s.st ++ [svar] ++ [t], s.pb, s.rw ++ zaF t, cond (eqI t.kind 6) (s.sm ++ [⟨t.v0, t.v1⟩]) s.sm⟩
def tMul (x y z : Nat) (k : Fr) : Stp := ⟨2, x, y, z, one1, k, .zero, fneg one1, five⟩
def zuM (z : Nat) : Stp := ⟨3, z, 0, 0, .zero, .zero, .zero, .zero, .zero⟩
def tPow (x z : Nat) : Stp := ⟨4, x, 0, z, .zero, .zero, .zero, .zero, .zero⟩
def zuN (x y z : Nat) : Stp := ⟨5, x, y, z, .zero, .zero, .zero, .zero, .zero⟩
def zuO (z x : Nat) : Stp := ⟨6, z, x, 0, .zero, .zero, .zero, .zero, .zero⟩
def tPub (x : Nat) : Stp := ⟨7, x, 0, 0, .zero, .zero, .zero, .zero, .zero⟩
def tNo (x : Nat) : Stp := ⟨2, x, -5, x, .zero, one1, .zero, fneg one1, .zero⟩
inductive Gate : PlS -> PlS -> Prop
  | mul {s : PlS} (n x y k : Nat) (hx : x < s.vs.length) (hy : y < s.vs.length) (hk : k < 9) :
      Gate s (s.two n (fadd (fadd (fmul (s.val x) (s.val y)) (fmul (zoH k) (s.val x))) five) (tMul x y s.vs.length (zoH k)))
  | bool {s : PlS} (n k : Nat) (hk : k < 2) : Gate s (s.two n (zoH k) (zuM s.vs.length))
  | pow {s : PlS} (n x : Nat) (hx : x < s.vs.length) : Gate s (s.two n (frN (fv (s.val x) ^ 5 % RR)) (tPow x s.vs.length))
  | next {s : PlS} (n x y : Nat) (hx : x < s.vs.length) (hy : y < s.vs.length) : Gate s (s.two n (fadd (s.val x) (s.val y)) (zuN x y s.vs.length))
  | same {s : PlS} (n x : Nat) (hx : x < s.vs.length) : Gate s (s.two n (s.val x) (zuO s.vs.length x))
  | pub {s : PlS} (n x : Nat) (hx : x < s.vs.length) (hp : s.pv.length < 3) : Gate s ⟨n, s.pv ++ [s.val x], s.vs, s.st ++ [tPub x], s.pb ++ [zcC x], s.rw, s.sm⟩
  | skip {s : PlS} (n : Nat) : Gate s ⟨n, s.pv, s.vs, s.st, s.pb, s.rw, s.sm⟩
  | no {s : PlS} (n x : Nat) (hx : x < s.vs.length) : Gate s ⟨n, s.pv, s.vs, s.st ++ [tNo x], s.pb, s.rw ++ zaF (tNo x), s.sm⟩
structure PlI (g : Nat) (s : PlS) : Prop where
  v2 : 2 <= s.vs.length
  v : s.vs.length <= 2 + g
  p : s.pv.length <= 3
  pp : s.pb.length = s.pv.length
  r : s.rw.length <= 2 * g
  m : s.sm.length <= g
  st : s.st.length <= 2 + 2 * g
  sc : ∀ x ∈ s.vs, Sc x
theorem PlI.val {g : Nat} {s : PlS} (h : PlI g s) (x : Nat) : Sc (s.val x) := by
  unfold PlS.val
  rcases Nat.lt_or_ge x s.vs.length with h1 | h1
  . rw [List.getD_eq_getElem?_getD, List.getElem?_eq_getElem h1]
    exact h.sc _ (List.getElem_mem h1)
  . rw [List.getD_eq_getElem?_getD, List.getElem?_eq_none h1]
    exact zav
theorem zoI {k : Nat} (h : k < 1000) : fv (zoH k) = k := by
  have e : (u64I (k : Int)).toNat = k := zpV (by omega)
  exact (zpW _).trans e
theorem zoJ : 1000 < RR := by decide +kernel
theorem zlf {k : Nat} (h : k < 1000) : Sc (zoH k) := by
  unfold Sc
  rw [zoI h]
  have := zoJ
  omega
theorem zsx : Sc five := by unfold Sc five; decide +kernel
theorem zkq : Sc one1 := by unfold Sc one1; decide +kernel
theorem zq0 (a : Fr) : Sc (fneg a) := by unfold Sc fneg; rw [zqR]; exact Nat.mod_lt _ (by have := zoJ; omega)
theorem zq1 (n : Nat) : Sc (frN (n % RR)) := by unfold Sc; rw [zqR]; exact Nat.mod_lt _ (by have := zoJ; omega)
theorem zoK (a b : Fr) : Sc (fadd a b) := zq1 _
theorem zuP {V : Int} {x y z : Nat} {k : Fr} (hx : (x : Int) < V) (hy : (y : Int) < V) (hz : (z : Int) < V) (hk : Sc k) : okS V (tMul x y z k) :=
  ⟨⟨by show (1 : Int) <= 2; decide, by show (2 : Int) <= 7; decide⟩, ⟨zkq, hk, zav, zq0 _, zsx⟩, fun _ => ⟨hx, .inr rfl⟩, fun _ => ⟨hy, .inr rfl⟩, fun _ => ⟨hz, .inr rfl⟩⟩
theorem zsy {V : Int} {z : Nat} (hz : (z : Int) < V) : okS V (zuM z) :=
  ⟨⟨by show (1 : Int) <= 3; decide, by show (3 : Int) <= 7; decide⟩, ⟨zav, zav, zav, zav, zav⟩, fun _ => ⟨hz, .inl (show (0 : Int) <= (z : Int) by omega)⟩, fun h => absurd h (by show ¬ ((3 : Int) = 2 \/ (3 : Int) = 5 \/ (3 : Int) = 6); decide), fun h => absurd h (by show ¬ ((3 : Int) = 2 \/ (3 : Int) = 4 \/ (3 : Int) = 5); decide)⟩
theorem zuQ {V : Int} {x z : Nat} (hx : (x : Int) < V) (hz : (z : Int) < V) : okS V (tPow x z) :=
  ⟨⟨by show (1 : Int) <= 4; decide, by show (4 : Int) <= 7; decide⟩, ⟨zav, zav, zav, zav, zav⟩, fun _ => ⟨hx, .inl (show (0 : Int) <= (x : Int) by omega)⟩, fun h => absurd h (by show ¬ ((4 : Int) = 2 \/ (4 : Int) = 5 \/ (4 : Int) = 6); decide), fun _ => ⟨hz, .inl (show (0 : Int) <= (z : Int) by omega)⟩⟩
theorem zsz {V : Int} {x y z : Nat} (hx : (x : Int) < V) (hy : (y : Int) < V) (hz : (z : Int) < V) : okS V (zuN x y z) :=
  ⟨⟨by show (1 : Int) <= 5; decide, by show (5 : Int) <= 7; decide⟩, ⟨zav, zav, zav, zav, zav⟩, fun _ => ⟨hx, .inl (show (0 : Int) <= (x : Int) by omega)⟩, fun _ => ⟨hy, .inl (show (0 : Int) <= (y : Int) by omega)⟩, fun _ => ⟨hz, .inl (show (0 : Int) <= (z : Int) by omega)⟩⟩
theorem zsA {V : Int} {x z : Nat} (hx : (x : Int) < V) (hz : (z : Int) < V) : okS V (zuO z x) :=
  ⟨⟨by show (1 : Int) <= 6; decide, by show (6 : Int) <= 7; decide⟩, ⟨zav, zav, zav, zav, zav⟩, fun _ => ⟨hz, .inl (show (0 : Int) <= (z : Int) by omega)⟩, fun _ => ⟨hx, .inl (show (0 : Int) <= (x : Int) by omega)⟩, fun h => absurd h (by show ¬ ((6 : Int) = 2 \/ (6 : Int) = 4 \/ (6 : Int) = 5); decide)⟩
theorem zuR {V : Int} {x : Nat} (hx : (x : Int) < V) : okS V (tPub x) :=
  ⟨⟨by show (1 : Int) <= 7; decide, by show (7 : Int) <= 7; decide⟩, ⟨zav, zav, zav, zav, zav⟩, fun _ => ⟨hx, .inl (show (0 : Int) <= (x : Int) by omega)⟩, fun h => absurd h (by show ¬ ((7 : Int) = 2 \/ (7 : Int) = 5 \/ (7 : Int) = 6); decide), fun h => absurd h (by show ¬ ((7 : Int) = 2 \/ (7 : Int) = 4 \/ (7 : Int) = 5); decide)⟩
theorem zxj {V : Int} {x : Nat} (hx : (x : Int) < V) : okS V (tNo x) :=
  ⟨⟨by show (1 : Int) <= 2; decide, by show (2 : Int) <= 7; decide⟩, ⟨zav, zkq, zav, zq0 _, zav⟩, fun _ => ⟨hx, .inr rfl⟩, fun _ => ⟨show (-5 : Int) < V by omega, .inr rfl⟩, fun _ => ⟨hx, .inr rfl⟩⟩
theorem PlI.two {g : Nat} {s : PlS} (h : PlI g s) (n : Nat) {c : Fr} (hc : Sc c) (t : Stp) (ht : (zaF t).length <= 2) : PlI (g + 1) (s.two n c t) := by
  refine ⟨?_, ?_, h.p, h.pp, ?_, ?_, ?_, ?_⟩
  . have := h.v2; simp [PlS.two]; omega
  . have := h.v; simp [PlS.two]; omega
  . have := h.r; simp [PlS.two]; omega
  . have := h.m
    unfold PlS.two
    cases eqI t.kind 6 <;> simp <;> omega
  . have := h.st; simp [PlS.two]; omega
  . intro x hx
    simp only [PlS.two, List.mem_append, List.mem_singleton] at hx
    rcases hx with hx | rfl
    . exact h.sc x hx
    . exact hc
theorem Gate.inv {g : Nat} {s s' : PlS} (hg : Gate s s') (h : PlI g s) : PlI (g + 1) s' := by
  cases hg with
  | mul n x y k hx hy hk => exact h.two n (zoK _ _) _ (show 1 <= 2 by omega)
  | bool n k hk => exact h.two n (zlf (by omega)) _ (show 1 <= 2 by omega)
  | pow n x hx => exact h.two n (zq1 _) _ (show 1 <= 2 by omega)
  | next n x y hx hy => exact h.two n (zoK _ _) _ (show 2 <= 2 by omega)
  | same n x hx => exact h.two n (h.val x) _ (show 0 <= 2 by omega)
  | pub n x hx hp =>
    have := h.v2; have := h.v; have := h.pp; have := h.r; have := h.m; have := h.st
    refine ⟨by simpa using h.v2, by simp only; omega, by simp; omega, by simp; omega, by simp only; omega, by simp only; omega, by simp; omega, h.sc⟩
  | skip n =>
    have := h.v2; have := h.v; have := h.pp; have := h.r; have := h.m; have := h.st
    exact ⟨by simpa using h.v2, by simp only; omega, h.p, h.pp, by simp only; omega, by simp only; omega, by simp only; omega, h.sc⟩
  | no n x hx =>
    have := h.v2; have := h.v; have := h.pp; have := h.r; have := h.m; have := h.st
    refine ⟨by simpa using h.v2, by simp only; omega, h.p, h.pp, ?_, by simp only; omega, by simp; omega, h.sc⟩
    simp only [List.length_append, show (zaF (tNo x)).length = 1 from rfl]; omega
abbrev Lp95 := (List UInt8) -> Int -> Int -> Int -> Int -> Int -> Int -> Int -> Int -> Fr -> (List Row) -> (List Pr) -> (List Fr) -> (List Fr) -> (List Stp) -> (List Row) -> (List Pr) -> (List Fr) -> (List Fr) -> (List Stp) -> (List Row) -> (List Row) -> (List Pr) -> Option ((Int × Int × List Row × List Pr × List Fr × List Fr × List Stp × Unit) × Unit)
def Lp95.at (A : Lp95) (l : List UInt8) (most g : Int) (s : PlS) : Option ((Int × Int × List Row × List Pr × List Fr × List Fr × List Stp × Unit) × Unit) :=
  A l most g 0 0 0 0 (s.n : Int) (s.vs.length : Int) one1 [] [] [] [] [] [] [] s.pv s.vs s.st s.pb s.rw s.sm
section
variable {N g : Nat} (hN : 2000 <= N) (hg : g <= 14) {s : PlS} (h : PlI g s) (hn : s.n <= 2 + 4 * g) (l : List UInt8) (most : Int) (A : Lp95)
include hN hg h
include hn
end
end
section
inductive Plays : PlS -> PlS -> Prop
  | refl (s : PlS) : Plays s s
  | step {s t u : PlS} : Gate s t -> Plays t u -> Plays s u
def PlS.res (s : PlS) : (Int × Int × List Row × List Pr × List Fr × List Fr × List Stp × Unit) := ((s.pb.length : Int), (s.vs.length : Int), s.pb ++ s.rw, s.sm, s.pv, s.vs, s.st, ())
def zh0 (V : Int) (r : Row) : Prop := bigR r = false /\ unkR V r = false /\ lowR r = false
theorem zeJ {x : Fr} (h : Sc x) : bg x = false := by unfold bg; unfold Sc at h; rw [decide_eq_true h]; rfl
theorem zdp {V : Int} {r : Row} (h0 : Sc r.q0) (h1 : Sc r.q1) (h2 : Sc r.q2) (h3 : Sc r.q3) (h4 : Sc r.q4) (h5 : Sc r.q5) (h6 : Sc r.q6) (h7 : Sc r.q7) (w0 : -1 <= r.w0 /\ r.w0 < V) (w1 : -1 <= r.w1 /\ r.w1 < V) (w2 : -1 <= r.w2 /\ r.w2 < V) : zh0 V r := by
  refine ⟨?_, ?_, ?_⟩
  . unfold bigR
    rw [zeJ h0, zeJ h1, zeJ h2, zeJ h3, zeJ h4, zeJ h5, zeJ h6, zeJ h7]
    rfl
  . unfold unkR
    rw [zaD (by omega), zaD (by omega), zaD (by omega)]
    rfl
  . unfold lowR
    rw [zai (by omega), zai (by omega), zai (by omega)]
    rfl
theorem zsB {V v : Int} (hV : 0 <= V) (h : v < V) : -1 <= mxI v (-1) /\ mxI v (-1) < V := by
  unfold mxI
  by_cases h1 : v < -1
  . rw [zaw h1, cond_true]; omega
  . rw [zai h1, cond_false]; omega
theorem zdq {V : Int} (hV : 0 <= V) {s : Stp} (h : okS V s) : ∀ r ∈ zaF s, zh0 V r := by
  obtain ⟨k, v0, v1, v2, q0, q1, q2, q3, q4⟩ := s
  obtain ⟨⟨k1, k2⟩, ⟨a0, a1, a2, a3, a4⟩, b0, b1, b2⟩ := h
  simp only at k1 k2 b0 b1 b2 a0 a1 a2 a3 a4
  have hk : k = 1 \/ k = 2 \/ k = 3 \/ k = 4 \/ k = 5 \/ k = 6 \/ k = 7 := by omega
  have z := zav
  have o := zkq
  have m : -1 <= (-1 : Int) /\ (-1 : Int) < V := by omega
  intro r hr
  rcases hk with rfl | rfl | rfl | rfl | rfl | rfl | rfl
  . cases (show r ∈ ([] : List Row) from hr)
  . have hr : r ∈ [Row.mk q0 q1 q2 q3 q4 .zero .zero .zero (mxI v0 (-1)) (mxI v1 (-1)) (mxI v2 (-1))] := hr
    rw [List.mem_singleton] at hr; subst hr
    exact zdp a0 a1 a2 a3 a4 z z z (zsB hV (b0 (by omega)).1) (zsB hV (b1 (by omega)).1) (zsB hV (b2 (by omega)).1)
  . have hr : r ∈ [Row.mk .zero .zero .zero .zero .zero one1 .zero .zero v0 (-1) (-1)] := hr
    rw [List.mem_singleton] at hr; subst hr
    have := b0 (by omega)
    unfold okV at this
    exact zdp z z z z z o z z (by simp only; omega) m m
  . have hr : r ∈ [Row.mk .zero .zero .zero .zero .zero .zero one1 .zero v0 (-1) v2] := hr
    rw [List.mem_singleton] at hr; subst hr
    have h0 := b0 (by omega)
    have h2 := b2 (by omega)
    unfold okV at h0 h2
    exact zdp z z z z z z o z (by simp only; omega) m (by simp only; omega)
  . have hr : r ∈ [Row.mk .zero .zero .zero .zero .zero .zero .zero one1 v0 v1 (-1), Row.mk .zero .zero .zero .zero .zero .zero .zero .zero v2 (-1) (-1)] := hr
    have h0 := b0 (by omega)
    have h1 := b1 (by omega)
    have h2 := b2 (by omega)
    unfold okV at h0 h1 h2
    simp only [List.mem_cons, List.not_mem_nil, or_false] at hr
    rcases hr with rfl | rfl
    . exact zdp z z z z z z z o (by simp only; omega) (by simp only; omega) m
    . exact zdp z z z z z z z z (by simp only; omega) m m
  . cases (show r ∈ ([] : List Row) from hr)
  . have hr : r ∈ [Row.mk .zero ⟨1, 0, 0, 0⟩ .zero .zero .zero .zero .zero .zero v0 (-1) (-1)] := hr
    rw [List.mem_singleton] at hr; subst hr
    have := b0 (by omega)
    unfold okV at this
    exact zdp z o z z z z z z (by simp only; omega) m m
theorem zh0.mono {V W : Int} (h : V <= W) {r : Row} (hr : zh0 V r) : zh0 W r := by
  obtain ⟨a, b, c⟩ := hr
  refine ⟨a, ?_, c⟩
  unfold unkR at b ⊢
  simp only [Bool.or_eq_false_iff] at b
  obtain ⟨⟨b0, b1⟩, b2⟩ := b
  have := of_decide_eq_false b0
  have := of_decide_eq_false b1
  have := of_decide_eq_false b2
  rw [zaD (by omega), zaD (by omega), zaD (by omega)]
  rfl
structure GdI (s : PlS) : Prop where
  pb : ∀ r ∈ s.pb, ∃ x : Nat, x < s.vs.length /\ r = zcC x
  rw : ∀ r ∈ s.rw, zh0 (s.vs.length : Int) r
  sm : ∀ p ∈ s.sm, (0 <= p.x /\ p.x < (s.vs.length : Int)) /\ 0 <= p.y /\ p.y < (s.vs.length : Int)
theorem GdI.two {s : PlS} (h : GdI s) (n : Nat) (c : Fr) {t : Stp} (ht : okS ((s.vs.length + 1 : Nat) : Int) t) : GdI (s.two n c t) := by
  have hl : (s.two n c t).vs.length = s.vs.length + 1 := by simp [PlS.two]
  refine ⟨fun r hr => ?_, fun r hr => ?_, fun p hp => ?_⟩
  . obtain ⟨x, hx, e⟩ := h.pb r hr
    exact ⟨x, by omega, e⟩
  . rw [hl]
    simp only [PlS.two, List.mem_append] at hr
    rcases hr with hr | hr
    . exact (h.rw r hr).mono (by omega)
    . exact zdq (by omega) ht r hr
  . rw [hl]
    have old : ∀ p ∈ s.sm, (0 <= p.x /\ p.x < ((s.vs.length + 1 : Nat) : Int)) /\ 0 <= p.y /\ p.y < ((s.vs.length + 1 : Nat) : Int) := fun p hp => by
      have := h.sm p hp
      omega
    simp only [PlS.two] at hp
    cases h6 : eqI t.kind 6 with
    | false => rw [h6] at hp; exact old p hp
    | true =>
      rw [h6] at hp
      simp only [cond_true, List.mem_append, List.mem_singleton] at hp
      rcases hp with hp | rfl
      . exact old p hp
      . have h6 : t.kind = 6 := of_decide_eq_true h6
        obtain ⟨_, _, b0, b1, _⟩ := ht
        have h0 := b0 (by omega)
        have h1 := b1 (by omega)
        unfold okV at h0 h1
        simp only
        omega
theorem Gate.good {g : Nat} {s s' : PlS} (hg : Gate s s') (hi : PlI g s) (h : GdI s) : GdI s' := by
  cases hg with
  | mul n x y k hx hy hk => exact h.two n _ (zuP (by omega) (by omega) (by omega) (zlf (by omega)))
  | bool n k hk => exact h.two n _ (zsy (by omega))
  | pow n x hx => exact h.two n _ (zuQ (by omega) (by omega))
  | next n x y hx hy => exact h.two n _ (zsz (by omega) (by omega) (by omega))
  | same n x hx => exact h.two n _ (zsA (by omega) (by omega))
  | pub n x hx hp =>
    refine ⟨fun r hr => ?_, h.rw, h.sm⟩
    simp only [List.mem_append, List.mem_singleton] at hr
    rcases hr with hr | rfl
    . exact h.pb r hr
    . exact ⟨x, hx, rfl⟩
  | skip n => exact ⟨h.pb, h.rw, h.sm⟩
  | no n x hx =>
    refine ⟨h.pb, fun r hr => ?_, h.sm⟩
    simp only [List.mem_append] at hr
    rcases hr with hr | hr
    . exact h.rw r hr
    . exact zdq (V := (s.vs.length : Int)) (by omega) (zxj (by omega)) r hr
theorem Plays.keep {P : PlS -> Prop} (hP : ∀ g s s', PlI g s -> Gate s s' -> P s -> P s') : ∀ {s s' : PlS}, Plays s s' -> ∀ g, PlI g s -> P s -> P s' := by
  intro s s' h
  induction h with
  | refl s => exact fun _ _ h => h
  | step h1 _ ih => exact fun g hi h => ih (g + 1) (h1.inv hi) (hP g _ _ hi h1 h)
theorem zqi {V : Int} {x : Nat} (h : (x : Int) < V) : zh0 V (zcC x) := zdq (by omega) (zuR h) _ (List.mem_singleton.2 rfl)
theorem zhg (r : Row) : zaL r r = true := by
  unfold zaL
  simp [eqI]
theorem zmj {x : Nat} : zeY (zcC x) = false := by
  unfold zeY
  rw [show (zcC (x : Int)).w0 = (x : Int) from rfl, zai (by omega), zhg]
  rfl
theorem zlg {P : Int} : ∀ (l : List Row) (i : Nat), (∀ r ∈ l, lowR r = false) -> (∀ (j : Nat) (r : Row), l[j]? = some r -> ((i + j : Nat) : Int) < P -> zeY r = false) -> ze4 P i l = false
  | [], _, _, _ => rfl
  | r :: l, i, h1, h2 => by
    unfold ze4
    rw [h1 r List.mem_cons_self, zlg l (i + 1) (fun r hr => h1 r (List.mem_cons_of_mem _ hr)) fun j x hx hj => h2 (j + 1) x (by simpa using hx) (by omega)]
    by_cases hi : (i : Int) < P
    . rw [h2 0 r rfl (by simpa using hi)]
      cases ltI (i : Int) P <;> rfl
    . rw [zai hi]; rfl
end
section
def badV (kd V v : Int) : Bool := leI V v || (ltI v 0 && !eqI kd 2)
def badQ (s : Stp) : Bool := bg s.q0 || bg s.q1 || bg s.q2 || bg s.q3 || bg s.q4
def badN (V : Int) (s : Stp) : Bool := (ltI 1 s.kind && badV s.kind V s.v0) || ((eqI s.kind 2 || eqI s.kind 5 || eqI s.kind 6) && badV s.kind V s.v1) || ((eqI s.kind 2 || eqI s.kind 4 || eqI s.kind 5) && badV s.kind V s.v2)
def errS (V : Int) (s : Stp) : Int := cond (ltI s.kind 1 || ltI 7 s.kind) 11 (cond (badQ s) 4 (cond (badN V s) 10 0))
theorem zel {x : Fr} (h : bg x = false) : Sc x := by
  unfold bg at h
  unfold Sc
  simpa using h
theorem zeK {kd V v : Int} (h : badV kd V v = false) : okV kd V v := by
  unfold badV at h
  simp only [Bool.or_eq_false_iff, Bool.and_eq_false_iff, Bool.not_eq_false'] at h
  obtain ⟨h1, h2⟩ := h
  have h1 := of_decide_eq_false h1
  refine ⟨by omega, ?_⟩
  rcases h2 with h2 | h2
  . have := of_decide_eq_false h2
    exact .inl (by omega)
  . exact .inr (of_decide_eq_true h2)
theorem zkr {kd V v : Int} (h : okV kd V v) : badV kd V v = false := by
  obtain ⟨h1, h2⟩ := h
  unfold badV
  rw [zaD (by omega)]
  rcases h2 with h2 | h2
  . rw [zai (by omega)]; rfl
  . rw [zbz h2]; cases ltI v 0 <;> rfl
theorem zks {V : Int} {s : Stp} (h : errS V s = 0) : okS V s := by
  unfold errS at h
  cases h1 : (ltI s.kind 1 || ltI 7 s.kind) with
  | true => rw [h1] at h; simp at h
  | false =>
    rw [h1, cond_false] at h
    cases h2 : badQ s with
    | true => rw [h2] at h; simp at h
    | false =>
      rw [h2, cond_false] at h
      cases h3 : badN V s with
      | true => rw [h3] at h; simp at h
      | false =>
        simp only [Bool.or_eq_false_iff] at h1
        have a1 := of_decide_eq_false h1.1
        have a2 := of_decide_eq_false h1.2
        unfold badQ at h2
        simp only [Bool.or_eq_false_iff] at h2
        obtain ⟨⟨⟨⟨c0, c1⟩, c2⟩, c3⟩, c4⟩ := h2
        unfold badN at h3
        simp only [Bool.or_eq_false_iff] at h3
        obtain ⟨⟨d0, d1⟩, d2⟩ := h3
        refine ⟨by omega, ⟨zel c0, zel c1, zel c2, zel c3, zel c4⟩, fun hk => ?_, fun hk => ?_, fun hk => ?_⟩
        . rw [zaw hk, Bool.true_and] at d0; exact zeK d0
        . have : (eqI s.kind 2 || eqI s.kind 5 || eqI s.kind 6) = true := by
            rcases hk with hk | hk | hk <;> rw [hk] <;> rfl
          rw [this, Bool.true_and] at d1; exact zeK d1
        . have : (eqI s.kind 2 || eqI s.kind 4 || eqI s.kind 5) = true := by
            rcases hk with hk | hk | hk <;> rw [hk] <;> rfl
          rw [this, Bool.true_and] at d2; exact zeK d2
theorem or3 {a b c : Int} {k : Int} (h : (eqI k a || eqI k b || eqI k c) = true) : k = a \/ k = b \/ k = c := by
  simp only [Bool.or_eq_true] at h
  rcases h with (h | h) | h
  . exact .inl (of_decide_eq_true h)
  . exact .inr (.inl (of_decide_eq_true h))
  . exact .inr (.inr (of_decide_eq_true h))
theorem zsC {V : Int} {s : Stp} (h : okS V s) : errS V s = 0 := by
  obtain ⟨⟨k1, k2⟩, ⟨a0, a1, a2, a3, a4⟩, b0, b1, b2⟩ := h
  unfold errS badQ
  rw [zai (by omega), zai (by omega), zeJ a0, zeJ a1, zeJ a2, zeJ a3, zeJ a4]
  simp only [Bool.or_self, cond_false]
  have : badN V s = false := by
    unfold badN
    simp only [Bool.or_eq_false_iff]
    refine ⟨⟨?_, ?_⟩, ?_⟩
    . cases hk : ltI 1 s.kind with
      | false => rfl
      | true => rw [Bool.true_and]; exact zkr (b0 (of_decide_eq_true hk))
    . cases hk : (eqI s.kind 2 || eqI s.kind 5 || eqI s.kind 6) with
      | false => rfl
      | true => rw [Bool.true_and]; exact zkr (b1 (or3 hk))
    . cases hk : (eqI s.kind 2 || eqI s.kind 4 || eqI s.kind 5) with
      | false => rfl
      | true => rw [Bool.true_and]; exact zkr (b2 (or3 hk))
  rw [this, cond_false]
theorem zuS (N : Nat) (A : Int -> Int -> Stp -> Option (Int × Unit)) (V : Int) (s : Stp) : zaN N A V 0 s = Option.bind (q69 N s.q0) fun rr => cond (!rr.1) (some ((4 : Int), ())) (A V 1 s) := by unfold zaN; kernel_rfl
theorem zuT (N : Nat) (A : Int -> Int -> Stp -> Option (Int × Unit)) (V : Int) (s : Stp) : zaN N A V 1 s = Option.bind (q69 N s.q1) fun rr => cond (!rr.1) (some ((4 : Int), ())) (A V 2 s) := by unfold zaN; kernel_rfl
theorem zuU (N : Nat) (A : Int -> Int -> Stp -> Option (Int × Unit)) (V : Int) (s : Stp) : zaN N A V 2 s = Option.bind (q69 N s.q2) fun rr => cond (!rr.1) (some ((4 : Int), ())) (A V 3 s) := by unfold zaN; kernel_rfl
theorem zuV (N : Nat) (A : Int -> Int -> Stp -> Option (Int × Unit)) (V : Int) (s : Stp) : zaN N A V 3 s = Option.bind (q69 N s.q3) fun rr => cond (!rr.1) (some ((4 : Int), ())) (A V 4 s) := by unfold zaN; kernel_rfl
theorem zuW (N : Nat) (A : Int -> Int -> Stp -> Option (Int × Unit)) (V : Int) (s : Stp) : zaN N A V 4 s = Option.bind (q69 N s.q4) fun rr => cond (!rr.1) (some ((4 : Int), ())) (A V 5 s) := by unfold zaN; kernel_rfl
theorem zxk (N M : Nat) (hN : 10 < N) (V : Int) (s : Stp) : zek N (M + 6) V 0 s = cond (badQ s) (some ((4 : Int), ())) (zaN N (zek N M) V 5 s) := by
  have s0 : ∀ A, zaN N A V 0 s = cond (bg s.q0) (some ((4 : Int), ())) (A V 1 s) := fun A => (zuS N A V s).trans (by rw [ziY hN]; kernel_rfl)
  have s1 : ∀ A, zaN N A V 1 s = cond (bg s.q1) (some ((4 : Int), ())) (A V 2 s) := fun A => (zuT N A V s).trans (by rw [ziY hN]; kernel_rfl)
  have s2 : ∀ A, zaN N A V 2 s = cond (bg s.q2) (some ((4 : Int), ())) (A V 3 s) := fun A => (zuU N A V s).trans (by rw [ziY hN]; kernel_rfl)
  have s3 : ∀ A, zaN N A V 3 s = cond (bg s.q3) (some ((4 : Int), ())) (A V 4 s) := fun A => (zuV N A V s).trans (by rw [ziY hN]; kernel_rfl)
  have s4 : ∀ A, zaN N A V 4 s = cond (bg s.q4) (some ((4 : Int), ())) (A V 5 s) := fun A => (zuW N A V s).trans (by rw [ziY hN]; kernel_rfl)
  rw [zbK, s0, zbK, s1, zbK, s2, zbK, s3, zbK, s4, zbK, zbM, zbM, zbM, zbM]
  unfold badQ
  simp only [Bool.or_assoc]
theorem zaK {f : Bool} (kd V v : Int) (X : Option (Int × Unit)) : cond f (cond (leI V v) (some ((10 : Int), ())) (cond (ltI v 0) (cond (!eqI kd 2) (some ((10 : Int), ())) X) X)) X = cond (f && badV kd V v) (some ((10 : Int), ())) X := by
  unfold badV
  cases f <;> cases leI V v <;> cases ltI v 0 <;> cases eqI kd 2 <;> rfl
theorem zxl (N M : Nat) (V : Int) (s : Stp) (f0 f1 f2 : Bool) : zbi N (M + 4) V 0 s [f0, f1, f2] = cond ((f0 && badV s.kind V s.v0) || (f1 && badV s.kind V s.v1) || (f2 && badV s.kind V s.v2)) (some (10, ())) (some (0, ())) := by
  have s0 : ∀ A, zcn N A V 0 s [f0, f1, f2] = cond (f0 && badV s.kind V s.v0) (some (10, ())) (A V 1 s [f0, f1, f2]) := fun A => by
    rw [← zaK]; unfold zcn; kernel_rfl
  have s1 : ∀ A, zcn N A V 1 s [f0, f1, f2] = cond (f1 && badV s.kind V s.v1) (some (10, ())) (A V 2 s [f0, f1, f2]) := fun A => by
    rw [← zaK]; unfold zcn; kernel_rfl
  have s2 : ∀ A, zcn N A V 2 s [f0, f1, f2] = cond (f2 && badV s.kind V s.v2) (some (10, ())) (A V 3 s [f0, f1, f2]) := fun A => by
    rw [← zaK]; unfold zcn; kernel_rfl
  rw [zcj, s0, zcj, s1, zcj, s2, zcj, zbM, zbM, Bool.or_assoc]
  congr 1
theorem zsD {N : Nat} (hN : 100 <= N) (V : Int) (s : Stp) : q196 N s V = some (errS V s, ()) := by
  obtain ⟨M, rfl⟩ : ∃ M, N = M + 6 := ⟨N - 6, by omega⟩
  unfold q196 errS
  by_cases k1 : s.kind < 1
  . rw [zaw k1]; rfl
  by_cases k2 : 7 < s.kind
  . rw [zai k1, zaw k2]; rfl
  rw [zai k1, zai k2, cond_false, cond_false, zxk _ M (by omega)]
  simp only [Bool.or_self, cond_false]
  cases hq : badQ s with
  | true => rfl
  | false =>
    rw [cond_false, cond_false]
    have fin : ∀ f0 f1 f2, zaN (M + 6) (zek (M + 6) M) V 5 s = zbi (M + 6) (M + 6) V 0 s [f0, f1, f2] -> f0 = ltI 1 s.kind -> f1 = (eqI s.kind 2 || eqI s.kind 5 || eqI s.kind 6) -> f2 = (eqI s.kind 2 || eqI s.kind 4 || eqI s.kind 5) ->
        zaN (M + 6) (zek (M + 6) M) V 5 s = some (cond (badN V s) 10 0, ()) := fun f0 f1 f2 h0 h1 h2 h3 => by
      rw [h0, zxl (M + 6) (M + 2), h1, h2, h3]
      unfold badN
      generalize (ltI 1 s.kind && badV s.kind V s.v0 || (eqI s.kind 2 || eqI s.kind 5 || eqI s.kind 6) && badV s.kind V s.v1 || (eqI s.kind 2 || eqI s.kind 4 || eqI s.kind 5) && badV s.kind V s.v2) = B
      cases B <;> rfl
    obtain ⟨k, v0, v1, v2, q0, q1, q2, q3, q4⟩ := s
    simp only at k1 k2
    have hk : k = 1 \/ k = 2 \/ k = 3 \/ k = 4 \/ k = 5 \/ k = 6 \/ k = 7 := by omega
    rcases hk with rfl | rfl | rfl | rfl | rfl | rfl | rfl
    . exact fin false false false (by unfold zaN; kernel_rfl) rfl rfl rfl
    . exact fin true true true (by unfold zaN; kernel_rfl) rfl rfl rfl
    . exact fin true false false (by unfold zaN; kernel_rfl) rfl rfl rfl
    . exact fin true false true (by unfold zaN; kernel_rfl) rfl rfl rfl
    . exact fin true true true (by unfold zaN; kernel_rfl) rfl rfl rfl
    . exact fin true true false (by unfold zaN; kernel_rfl) rfl rfl rfl
    . exact fin true false false (by unfold zaN; kernel_rfl) rfl rfl rfl
structure Bd where
  V : Nat
  pb : List Row
  rw : List Row
  sm : List Pr
def Bd.doS (b : Bd) (s : Stp) : Bd × Int × Int :=
  cond (eqI (errS b.V s) 0)
    (cond (ltI 64 ((b.pb.length + b.rw.length + (zaF s).length : Nat) : Int)) (b, 0, 8)
      (cond (eqI s.kind 1) (cond (leI 200 (b.V : Int)) (b, 0, 8) (⟨b.V + 1, b.pb, b.rw, b.sm⟩, (b.V : Int), 0))
        (cond (eqI s.kind 6) (cond (leI 200 (b.sm.length : Int)) (b, 0, 8) (⟨b.V, b.pb, b.rw, b.sm ++ [⟨s.v0, s.v1⟩]⟩, 0, 0))
          (cond (eqI s.kind 7) (cond (leI 8 (b.pb.length : Int)) (b, 0, 8) (⟨b.V, b.pb ++ zaF s, b.rw, b.sm⟩, 0, 0))
            (⟨b.V, b.pb, b.rw ++ zaF s, b.sm⟩, 0, 0)))))
    (b, 0, errS b.V s)
def Bd.out (b : Bd) : (Int × List Row × List Row × List Pr × Unit) := ((b.V : Int), b.pb, b.rw, b.sm, ())
structure BdI (b : Bd) : Prop where
  v : b.V <= 200
  p : b.pb.length <= 8
  r : b.pb.length + b.rw.length <= 64
  m : b.sm.length <= 200
  pb : ∀ r ∈ b.pb, ∃ x : Nat, x < b.V /\ r = zcC x
  rw : ∀ r ∈ b.rw, zh0 (b.V : Int) r
  sm : ∀ p ∈ b.sm, (0 <= p.x /\ p.x < (b.V : Int)) /\ 0 <= p.y /\ p.y < (b.V : Int)
def Bd.zero : Bd := ⟨0, [], [], []⟩
theorem Bd.zero_inv : BdI Bd.zero := ⟨Nat.zero_le _, Nat.zero_le _, Nat.zero_le _, Nat.zero_le _, fun r h => (by cases h), fun r h => (by cases h), fun r h => (by cases h)⟩
theorem zi6 (s : Stp) : (zaF s).length <= 2 := by
  unfold zaF
  cases eqI s.kind 2 <;> cases eqI s.kind 3 <;> cases eqI s.kind 4 <;> cases eqI s.kind 5 <;> cases eqI s.kind 7 <;> simp
theorem BdI.doS {b : Bd} (h : BdI b) (s : Stp) : BdI (b.doS s).1 := by
  unfold Bd.doS
  cases h0 : eqI (errS b.V s) 0 with
  | false => exact h
  | true =>
    have hok := zks (of_decide_eq_true h0)
    cases h1 : ltI 64 ((b.pb.length + b.rw.length + (zaF s).length : Nat) : Int) with
    | true => exact h
    | false =>
      have h1 := of_decide_eq_false h1
      cases h2 : eqI s.kind 1 with
      | true =>
        cases h3 : leI 200 (b.V : Int) with
        | true => exact h
        | false =>
          have h3 := of_decide_eq_false h3
          refine ⟨by show b.V + 1 <= 200; omega, h.p, h.r, h.m, fun r hr => ?_, fun r hr => (h.rw r hr).mono (by show (b.V : Int) <= ((b.V + 1 : Nat) : Int); omega), fun p hp => ?_⟩
          . obtain ⟨x, hx, e⟩ := h.pb r hr
            exact ⟨x, by show x < b.V + 1; omega, e⟩
          . have := h.sm p hp
            show (0 <= p.x /\ p.x < ((b.V + 1 : Nat) : Int)) /\ 0 <= p.y /\ p.y < ((b.V + 1 : Nat) : Int)
            omega
      | false =>
        cases h3 : eqI s.kind 6 with
        | true =>
          have k6 : s.kind = 6 := of_decide_eq_true h3
          cases h4 : leI 200 (b.sm.length : Int) with
          | true => exact h
          | false =>
            have h4 := of_decide_eq_false h4
            refine ⟨h.v, h.p, h.r, by show (b.sm ++ [_]).length <= 200; simp; omega, h.pb, h.rw, fun p hp => ?_⟩
            have hp : p ∈ b.sm ++ [⟨s.v0, s.v1⟩] := hp
            rcases List.mem_append.1 hp with hp | hp
            . exact h.sm p hp
            . rw [List.mem_singleton] at hp
              subst hp
              obtain ⟨_, _, b0, b1, _⟩ := hok
              have g0 := b0 (by omega)
              have g1 := b1 (by omega)
              unfold okV at g0 g1
              show (0 <= s.v0 /\ s.v0 < (b.V : Int)) /\ 0 <= s.v1 /\ s.v1 < (b.V : Int)
              omega
        | false =>
          cases h5 : eqI s.kind 7 with
          | true =>
            have k7 : s.kind = 7 := of_decide_eq_true h5
            cases h6 : leI 8 (b.pb.length : Int) with
            | true => exact h
            | false =>
              have h6 := of_decide_eq_false h6
              have e : zaF s = [zcC s.v0] := by unfold zaF; rw [k7]; rfl
              rw [e] at h1
              simp only [List.length_cons, List.length_nil] at h1
              refine ⟨h.v, by show (b.pb ++ zaF s).length <= 8; rw [e]; simp; omega, by show (b.pb ++ zaF s).length + b.rw.length <= 64; rw [e]; simp; omega, h.m, fun r hr => ?_, h.rw, h.sm⟩
              have hr : r ∈ b.pb ++ zaF s := hr
              rw [e] at hr
              rcases List.mem_append.1 hr with hr | hr
              . exact h.pb r hr
              . rw [List.mem_singleton] at hr
                subst hr
                obtain ⟨_, _, b0, _⟩ := hok
                have g0 := b0 (by omega)
                unfold okV at g0
                refine ⟨s.v0.toNat, by show s.v0.toNat < b.V; omega, ?_⟩
                rw [Int.toNat_of_nonneg (by omega)]
          | false =>
            refine ⟨h.v, h.p, by show b.pb.length + (b.rw ++ zaF s).length <= 64; simp; omega, h.m, h.pb, fun r hr => ?_, h.sm⟩
            have hr : r ∈ b.rw ++ zaF s := hr
            rcases List.mem_append.1 hr with hr | hr
            . exact h.rw r hr
            . exact zdq (by omega) hok r hr
theorem Bd.doS_ok {b : Bd} {s : Stp} (h : okS (b.V : Int) s) (h1 : s.kind = 7 -> b.pb.length < 8) (h2 : b.pb.length + b.rw.length + (zaF s).length <= 64) (h3 : s.kind = 6 -> b.sm.length < 200) (h4 : s.kind = 1 -> b.V < 200) :
    b.doS s = (⟨cond (eqI s.kind 1) (b.V + 1) b.V, cond (eqI s.kind 7) (b.pb ++ zaF s) b.pb, cond (eqI s.kind 7) b.rw (b.rw ++ zaF s), cond (eqI s.kind 6) (b.sm ++ [⟨s.v0, s.v1⟩]) b.sm⟩, cond (eqI s.kind 1) (b.V : Int) 0, 0) := by
  unfold Bd.doS
  rw [zsC h, zbz rfl, cond_true, zai (by omega), cond_false]
  cases k1 : eqI s.kind 1 with
  | true =>
    have k1 : s.kind = 1 := of_decide_eq_true k1
    have := h4 k1
    have e : zaF s = [] := by unfold zaF; rw [k1]; rfl
    rw [zaD (by omega), k1, e]
    simp only [cond_true, cond_false, List.append_nil]
    rfl
  | false =>
    rw [cond_false, cond_false, cond_false]
    cases k6 : eqI s.kind 6 with
    | true =>
      have k6 : s.kind = 6 := of_decide_eq_true k6
      have := h3 k6
      have e : zaF s = [] := by unfold zaF; rw [k6]; rfl
      rw [zaD (by omega), k6, e]
      simp only [cond_true, cond_false, List.append_nil]
      rfl
    | false =>
      rw [cond_false, cond_false]
      cases k7 : eqI s.kind 7 with
      | true =>
        have k7 : s.kind = 7 := of_decide_eq_true k7
        have := h1 k7
        rw [zaD (by omega)]
        rfl
      | false => rfl
theorem BdI.good {b : Bd} (h : BdI b) : GoodCirc (b.pb.length : Int) (b.V : Int) (b.pb ++ b.rw) b.sm := by
  have h1 := h.v; have h2 := h.p; have h3 := h.r; have h4 := h.m
  have hall : ∀ r ∈ b.pb ++ b.rw, zh0 (b.V : Int) r := fun r hr => by
    rcases List.mem_append.1 hr with hr | hr
    . obtain ⟨x, hx, rfl⟩ := h.pb r hr
      exact zqi (by omega)
    . exact h.rw r hr
  refine ⟨by omega, by omega, by omega, by omega, by simp; omega, by omega, by simp; omega, ?_, ?_, ?_, ?_⟩
  . exact List.any_eq_false.2 fun r hr => by rw [(hall r hr).1]; simp
  . exact List.any_eq_false.2 fun r hr => by rw [(hall r hr).2.1]; simp
  . refine List.any_eq_false.2 fun p hp => ?_
    have := h.sm p hp
    unfold unkP
    rw [zai (by omega), zaD (by omega), zai (by omega), zaD (by omega)]
    simp
  . refine zlg _ _ (fun r hr => (hall r hr).2.2) fun j r hr hj => ?_
    have hlt : j < b.pb.length := by omega
    rw [List.getElem?_append_left hlt] at hr
    obtain ⟨x, hx, rfl⟩ := h.pb r (List.mem_of_getElem? hr)
    exact zmj
theorem zqj {N : Nat} (hN : 100 <= N) {b : Bd} (h : BdI b) (s : Stp) : q115 N (b.V : Int) b.pb b.rw b.sm s = some ((b.doS s).1.out, (b.doS s).2.1, (b.doS s).2.2, ()) := by
  have i1 := h.v; have i2 := h.p; have i3 := h.r; have i4 := h.m
  have i5 := zi6 s
  unfold q115 Bd.doS
  rw [zsD hN]
  simp only [bsm]
  cases h0 : eqI (errS b.V s) 0 with
  | false => rfl
  | true =>
    have hok := zks (of_decide_eq_true h0)
    rw [Bool.not_true, cond_false, zsv hN hok.1]
    simp only [bsm]
    have e1 : wr ((b.pb.length : Int) + (b.rw.length : Int)) = ((b.pb.length + b.rw.length : Nat) : Int) := by rw [zeD (by omega) (by omega)]; omega
    have e2 : wr (((b.pb.length + b.rw.length : Nat) : Int) + ((zaF s).length : Int)) = ((b.pb.length + b.rw.length + (zaF s).length : Nat) : Int) := by rw [zeD (by omega) (by omega)]; omega
    have e3 : wr (((b.V + 1 : Nat) : Int) - 1) = (b.V : Int) := by rw [zeD (by omega) (by omega)]; omega
    rw [e1, e2, zcd (by omega), e3, cond_true]
    simp only [Nat.zero_add, List.length_cons, List.length_nil]
    rw [zaW (by omega), zaW (by omega), zaW (by omega), zaW (by omega), zaW (by omega), zaW (by omega)]
    simp only [mst2]
    cases ltI 64 ((b.pb.length + b.rw.length + (zaF s).length : Nat) : Int) <;> cases eqI s.kind 1 <;> cases leI 200 (b.V : Int) <;> cases eqI s.kind 6 <;> cases leI 200 (b.sm.length : Int) <;> cases eqI s.kind 7 <;> cases leI 8 (b.pb.length : Int) <;> rfl
end
end Go.Proofs.Ytgimohchocjgcaa.V
