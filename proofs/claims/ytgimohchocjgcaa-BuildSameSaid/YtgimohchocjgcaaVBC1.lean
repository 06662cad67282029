import Derived.Test.YtgimohchocjgcaaVWB13
import Derived.KernelRfl
set_option linter.unusedVariables false
set_option linter.unusedSimpArgs false
namespace Go.Proofs.Ytgimohchocjgcaa.V
section
def numN (l : List UInt8) (n : Nat) : Nat := cond (Nat.ble l.length n) n (n + 1)
def numX (l : List UInt8) (n m : Nat) : Nat := cond (Nat.ble l.length n) 0 ((l.getD n 0).toNat % m)
theorem zdS (l : List UInt8) (n : Nat) {m : Nat} (h : 0 < m) : numX l n m < m := by
  unfold numX
  cases Nat.ble l.length n with
  | true => exact h
  | false => exact Nat.mod_lt _ h
theorem zdT (l : List UInt8) (n : Nat) : numN l n <= n + 1 := by
  unfold numN
  cases Nat.ble l.length n <;> simp
theorem zdU {N n m : Nat} {l : List UInt8} (hm : 0 < m) (hn : n < 1000000) : q186 N (n : Int) l (m : Int) = some ((((numN l n : Nat) : Int), ()), ((numX l n m : Nat) : Int), ()) := by
  unfold q186 numN numX
  cases h : Nat.ble l.length n with
  | true =>
    have h1 := Nat.le_of_ble_eq_true h
    rw [zc2 (by omega), cond_true]
    rfl
  | false =>
    have h1 : n < l.length := by
      rcases Nat.lt_or_ge n l.length with h2 | h2
      . exact h2
      . rw [Nat.ble_eq_true_of_le h2] at h; cases h
    rw [zaC (by omega), cond_false, zaT (by omega)]
    have e : wr (((n + 1 : Nat) : Int) - 1) = (n : Int) := by rw [show (((n + 1 : Nat) : Int) - 1) = (n : Int) by omega]; exact zc5 (by omega) (by omega)
    rw [e, zc2 (by omega), zav (by omega), za6 (by omega), Int.toNat_natCast]
    rfl
theorem zji {N : Nat} (hN : 10 < N) {q : Fr} (h : Sc q) : q69 N q = some (true, ()) := by rw [zxp hN]; unfold Sc at h; rw [decide_eq_true h]
theorem l196 (N M : Nat) (hN : 10 < N) (V : Int) (s : Stp) (h0 : Sc s.q0) (h1 : Sc s.q1) (h2 : Sc s.q2) (h3 : Sc s.q3) (h4 : Sc s.q4) : zgq N (M + 6) V 0 s = zbg N (zgq N M) V 5 s := by
  have s0 : ∀ A, zbg N A V 0 s = A V 1 s := fun A => by unfold zbg; rw [zji hN h0]; kernel_rfl
  have s1 : ∀ A, zbg N A V 1 s = A V 2 s := fun A => by unfold zbg; rw [zji hN h1]; kernel_rfl
  have s2 : ∀ A, zbg N A V 2 s = A V 3 s := fun A => by unfold zbg; rw [zji hN h2]; kernel_rfl
  have s3 : ∀ A, zbg N A V 3 s = A V 4 s := fun A => by unfold zbg; rw [zji hN h3]; kernel_rfl
  have s4 : ∀ A, zbg N A V 4 s = A V 5 s := fun A => by unfold zbg; rw [zji hN h4]; kernel_rfl
  rw [zbQ, s0, zbQ, s1, zbQ, s2, zbQ, s3, zbQ, s4, zbQ]
def okV (kd V v : Int) : Prop := v < V /\ (0 <= v \/ kd = 2)
theorem zAd (N M : Nat) (V : Int) (s : Stp) (f0 f1 f2 : Bool) (h0 : f0 = true -> okV s.kind V s.v0) (h1 : f1 = true -> okV s.kind V s.v1) (h2 : f2 = true -> okV s.kind V s.v2) : zaU N (M + 4) V 0 s [f0, f1, f2] = some (0, ()) := by
  have key : ∀ (v : Int) (X : Option (Int × Unit)), okV s.kind V v -> cond (leI V v) (some ((10 : Int), ())) (cond (ltI v 0) (cond (!eqI s.kind 2) (some ((10 : Int), ())) X) X) = X := fun v X ⟨a, b⟩ => by
    rw [zaC (by omega), cond_false]
    by_cases hv : v < 0
    . rw [zav hv, cond_true, za4 (by omega), Bool.not_true, cond_false]
    . rw [zai (by omega), cond_false]
  have s0 : ∀ A, zbP N A V 0 s [f0, f1, f2] = A V 1 s [f0, f1, f2] := fun A => by
    have e : zbP N A V 0 s [f0, f1, f2] = cond f0 (cond (leI V s.v0) (some ((10 : Int), ())) (cond (ltI s.v0 0) (cond (!eqI s.kind 2) (some ((10 : Int), ())) (A V 1 s [f0, f1, f2])) (A V 1 s [f0, f1, f2]))) (A V 1 s [f0, f1, f2]) := by unfold zbP; kernel_rfl
    rw [e]
    cases f0 with
    | false => rfl
    | true => rw [cond_true, key _ _ (h0 rfl)]
  have s1 : ∀ A, zbP N A V 1 s [f0, f1, f2] = A V 2 s [f0, f1, f2] := fun A => by
    have e : zbP N A V 1 s [f0, f1, f2] = cond f1 (cond (leI V s.v1) (some ((10 : Int), ())) (cond (ltI s.v1 0) (cond (!eqI s.kind 2) (some ((10 : Int), ())) (A V 2 s [f0, f1, f2])) (A V 2 s [f0, f1, f2]))) (A V 2 s [f0, f1, f2]) := by unfold zbP; kernel_rfl
    rw [e]
    cases f1 with
    | false => rfl
    | true => rw [cond_true, key _ _ (h1 rfl)]
  have s2 : ∀ A, zbP N A V 2 s [f0, f1, f2] = A V 3 s [f0, f1, f2] := fun A => by
    have e : zbP N A V 2 s [f0, f1, f2] = cond f2 (cond (leI V s.v2) (some ((10 : Int), ())) (cond (ltI s.v2 0) (cond (!eqI s.kind 2) (some ((10 : Int), ())) (A V 3 s [f0, f1, f2])) (A V 3 s [f0, f1, f2]))) (A V 3 s [f0, f1, f2]) := by unfold zbP; kernel_rfl
    rw [e]
    cases f2 with
    | false => rfl
    | true => rw [cond_true, key _ _ (h2 rfl)]
  rw [zco, s0, zco, s1, zco, s2, zco]
  rfl
def ScS (s : Stp) : Prop := Sc s.q0 /\ Sc s.q1 /\ Sc s.q2 /\ Sc s.q3 /\ Sc s.q4
def okS (V : Int) (s : Stp) : Prop := (1 <= s.kind /\ s.kind <= 7) /\ ScS s /\ (1 < s.kind -> okV s.kind V s.v0) /\ (s.kind = 2 \/ s.kind = 5 \/ s.kind = 6 -> okV s.kind V s.v1) /\ (s.kind = 2 \/ s.kind = 4 \/ s.kind = 5 -> okV s.kind V s.v2)
theorem zuZ {N : Nat} (hN : 100 <= N) {V : Int} {s : Stp} (h : okS V s) : q196 N s V = some (0, ()) := by
  obtain ⟨⟨k1, k2⟩, ⟨a0, a1, a2, a3, a4⟩, b0, b1, b2⟩ := h
  obtain ⟨M, rfl⟩ : ∃ M, N = M + 6 := ⟨N - 6, by omega⟩
  unfold q196
  rw [zai (by omega), cond_false, zai (by omega), cond_false, l196 _ M (by omega) V s a0 a1 a2 a3 a4]
  obtain ⟨k, v0, v1, v2, q0, q1, q2, q3, q4⟩ := s
  simp only at k1 k2 b0 b1 b2
  have go : ∀ f0 f1 f2, (f0 = true -> okV k V v0) -> (f1 = true -> okV k V v1) -> (f2 = true -> okV k V v2) -> zaU (M + 6) (M + 6) V 0 ⟨k, v0, v1, v2, q0, q1, q2, q3, q4⟩ [f0, f1, f2] = some (0, ()) := fun f0 f1 f2 h0 h1 h2 => zAd (M + 6) (M + 2) V _ f0 f1 f2 h0 h1 h2
  have hk : k = 1 \/ k = 2 \/ k = 3 \/ k = 4 \/ k = 5 \/ k = 6 \/ k = 7 := by omega
  rcases hk with rfl | rfl | rfl | rfl | rfl | rfl | rfl
  . exact (show _ = zaU (M + 6) (M + 6) V 0 ⟨1, v0, v1, v2, q0, q1, q2, q3, q4⟩ [false, false, false] by unfold zbg; kernel_rfl).trans (go _ _ _ (fun h => by cases h) (fun h => by cases h) (fun h => by cases h))
  . exact (show _ = zaU (M + 6) (M + 6) V 0 ⟨2, v0, v1, v2, q0, q1, q2, q3, q4⟩ [true, true, true] by unfold zbg; kernel_rfl).trans (go _ _ _ (fun _ => b0 (by omega)) (fun _ => b1 (by omega)) (fun _ => b2 (by omega)))
  . exact (show _ = zaU (M + 6) (M + 6) V 0 ⟨3, v0, v1, v2, q0, q1, q2, q3, q4⟩ [true, false, false] by unfold zbg; kernel_rfl).trans (go _ _ _ (fun _ => b0 (by omega)) (fun h => by cases h) (fun h => by cases h))
  . exact (show _ = zaU (M + 6) (M + 6) V 0 ⟨4, v0, v1, v2, q0, q1, q2, q3, q4⟩ [true, false, true] by unfold zbg; kernel_rfl).trans (go _ _ _ (fun _ => b0 (by omega)) (fun h => by cases h) (fun _ => b2 (by omega)))
  . exact (show _ = zaU (M + 6) (M + 6) V 0 ⟨5, v0, v1, v2, q0, q1, q2, q3, q4⟩ [true, true, true] by unfold zbg; kernel_rfl).trans (go _ _ _ (fun _ => b0 (by omega)) (fun _ => b1 (by omega)) (fun _ => b2 (by omega)))
  . exact (show _ = zaU (M + 6) (M + 6) V 0 ⟨6, v0, v1, v2, q0, q1, q2, q3, q4⟩ [true, true, false] by unfold zbg; kernel_rfl).trans (go _ _ _ (fun _ => b0 (by omega)) (fun _ => b1 (by omega)) (fun h => by cases h))
  . exact (show _ = zaU (M + 6) (M + 6) V 0 ⟨7, v0, v1, v2, q0, q1, q2, q3, q4⟩ [true, false, false] by unfold zbg; kernel_rfl).trans (go _ _ _ (fun _ => b0 (by omega)) (fun h => by cases h) (fun h => by cases h))
def one1 : Fr := ⟨1, 0, 0, 0⟩
def zaF (s : Stp) : List Row :=
  cond (eqI s.kind 2) [⟨s.q0, s.q1, s.q2, s.q3, s.q4, .zero, .zero, .zero, mxI s.v0 (-1), mxI s.v1 (-1), mxI s.v2 (-1)⟩]
    (cond (eqI s.kind 3) [⟨.zero, .zero, .zero, .zero, .zero, one1, .zero, .zero, s.v0, -1, -1⟩]
      (cond (eqI s.kind 4) [⟨.zero, .zero, .zero, .zero, .zero, .zero, one1, .zero, s.v0, -1, s.v2⟩]
        (cond (eqI s.kind 5) [⟨.zero, .zero, .zero, .zero, .zero, .zero, .zero, one1, s.v0, s.v1, -1⟩, ⟨.zero, .zero, .zero, .zero, .zero, .zero, .zero, .zero, s.v2, -1, -1⟩]
          (cond (eqI s.kind 7) [zeq s.v0] []))))
theorem zxK (M : Nat) (v0 v1 v2 : Int) (q0 q1 q2 q3 q4 : Fr) : q197 (M + 8) ⟨1, v0, v1, v2, q0, q1, q2, q3, q4⟩ = some (zaF ⟨1, v0, v1, v2, q0, q1, q2, q3, q4⟩, 0, ()) := by kernel_rfl
theorem zxL (M : Nat) (v0 v1 v2 : Int) (q0 q1 q2 q3 q4 : Fr) : q197 (M + 8) ⟨2, v0, v1, v2, q0, q1, q2, q3, q4⟩ = some (zaF ⟨2, v0, v1, v2, q0, q1, q2, q3, q4⟩, 0, ()) := by kernel_rfl
theorem zxM (M : Nat) (v0 v1 v2 : Int) (q0 q1 q2 q3 q4 : Fr) : q197 (M + 8) ⟨3, v0, v1, v2, q0, q1, q2, q3, q4⟩ = some (zaF ⟨3, v0, v1, v2, q0, q1, q2, q3, q4⟩, 0, ()) := by kernel_rfl
theorem zxN (M : Nat) (v0 v1 v2 : Int) (q0 q1 q2 q3 q4 : Fr) : q197 (M + 8) ⟨4, v0, v1, v2, q0, q1, q2, q3, q4⟩ = some (zaF ⟨4, v0, v1, v2, q0, q1, q2, q3, q4⟩, 0, ()) := by kernel_rfl
theorem zxO (M : Nat) (v0 v1 v2 : Int) (q0 q1 q2 q3 q4 : Fr) : q197 (M + 8) ⟨5, v0, v1, v2, q0, q1, q2, q3, q4⟩ = some (zaF ⟨5, v0, v1, v2, q0, q1, q2, q3, q4⟩, 0, ()) := by kernel_rfl
theorem zxP (M : Nat) (v0 v1 v2 : Int) (q0 q1 q2 q3 q4 : Fr) : q197 (M + 8) ⟨6, v0, v1, v2, q0, q1, q2, q3, q4⟩ = some (zaF ⟨6, v0, v1, v2, q0, q1, q2, q3, q4⟩, 0, ()) := by kernel_rfl
theorem zxQ (M : Nat) (v0 v1 v2 : Int) (q0 q1 q2 q3 q4 : Fr) : q197 (M + 8) ⟨7, v0, v1, v2, q0, q1, q2, q3, q4⟩ = some (zaF ⟨7, v0, v1, v2, q0, q1, q2, q3, q4⟩, 0, ()) := by kernel_rfl
theorem zu0 {N : Nat} (hN : 100 <= N) {s : Stp} (h : 1 <= s.kind /\ s.kind <= 7) : q197 N s = some (zaF s, 0, ()) := by
  obtain ⟨M, rfl⟩ : ∃ M, N = M + 8 := ⟨N - 8, by omega⟩
  obtain ⟨k, v0, v1, v2, q0, q1, q2, q3, q4⟩ := s
  simp only at h
  have hk : k = 1 \/ k = 2 \/ k = 3 \/ k = 4 \/ k = 5 \/ k = 6 \/ k = 7 := by omega
  rcases hk with rfl | rfl | rfl | rfl | rfl | rfl | rfl
  . exact zxK ..
  . exact zxL ..
  . exact zxM ..
  . exact zxN ..
  . exact zxO ..
  . exact zxP ..
  . exact zxQ ..
theorem zu1 {N : Nat} (hN : 100 <= N) {V : Nat} {pb rw : List Row} {sm : List Pr} {s : Stp} (h : okS (V : Int) s) (h1 : pb.length < 8) (h2 : pb.length + rw.length + (zaF s).length <= 64) (h3 : sm.length < 200) (h4 : V < 200) :
    q115 N (V : Int) pb rw sm s = some (((cond (eqI s.kind 1) ((V + 1 : Nat) : Int) (V : Int), cond (eqI s.kind 7) (pb ++ zaF s) pb, cond (eqI s.kind 7) rw (rw ++ zaF s), cond (eqI s.kind 6) (sm ++ [⟨s.v0, s.v1⟩]) sm, ()), cond (eqI s.kind 1) (V : Int) 0, 0, ())) := by
  unfold q115
  rw [zuZ hN h]
  simp only [bsm]
  rw [za4 rfl, Bool.not_true, cond_false, zu0 hN h.1]
  simp only [bsm]
  have e1 : wr ((pb.length : Int) + (rw.length : Int)) = ((pb.length + rw.length : Nat) : Int) := by rw [zc5 (by omega) (by omega)]; omega
  have e2 : wr (((pb.length + rw.length : Nat) : Int) + ((zaF s).length : Int)) = ((pb.length + rw.length + (zaF s).length : Nat) : Int) := by rw [zc5 (by omega) (by omega)]; omega
  have e3 : wr (((V + 1 : Nat) : Int) - 1) = (V : Int) := by rw [zc5 (by omega) (by omega)]; omega
  rw [e1, e2, zai (by omega), cond_false, zaC (by omega), zaC (by omega), zaC (by omega), zaT (by omega), e3]
  simp only [cond_false, Nat.zero_add, List.length_cons, List.length_nil]
  rw [zaD (by omega), zaD (by omega), zaD (by omega), zaD (by omega), zaD (by omega), zaD (by omega)]
  simp only [mst2]
  obtain ⟨k, v0, v1, v2, q0, q1, q2, q3, q4⟩ := s
  obtain ⟨⟨k1, k2⟩, _⟩ := h
  simp only at k1 k2
  have hk : k = 1 \/ k = 2 \/ k = 3 \/ k = 4 \/ k = 5 \/ k = 6 \/ k = 7 := by omega
  rcases hk with rfl | rfl | rfl | rfl | rfl | rfl | rfl
  . show _ = some ((((V + 1 : Nat) : Int), pb, rw ++ [], sm, ()), (V : Int), 0, ())
    rw [List.append_nil]
    rfl
  . rfl
  . rfl
  . rfl
  . rfl
  . show _ = some (((V : Int), pb, rw ++ ([] : List Row), sm ++ [Pr.mk v0 v1], ()), (0 : Int), (0 : Int), ())
    rw [List.append_nil]
    rfl
  . rfl
theorem zib {N : Nat} (hN : 100 <= N) {V : Nat} {pb rw : List Row} {sm : List Pr} {pv vs : List Fr} {st : List Stp} {s : Stp} (h : okS (V : Int) s) (h1 : pb.length < 8) (h2 : pb.length + rw.length + (zaF s).length <= 64) (h3 : sm.length < 200) (h4 : V < 200)
    (h5 : st.length < 1000) (h6 : vs.length < 1000) (c : Fr) :
    q187 N 0 0 [] [] pv vs st (V : Int) pb rw sm s c = some ((0, 0, [], [], pv, cond (eqI s.kind 1) (vs ++ [c]) vs, st ++ [s], ()), (cond (eqI s.kind 1) ((V + 1 : Nat) : Int) (V : Int), cond (eqI s.kind 7) (pb ++ zaF s) pb, cond (eqI s.kind 7) rw (rw ++ zaF s), cond (eqI s.kind 6) (sm ++ [⟨s.v0, s.v1⟩]) sm, ()), cond (eqI s.kind 1) (V : Int) 0, ()) := by
  unfold q187
  rw [zu1 hN h h1 h2 h3 h4]
  simp only [bsm]
  rw [za4 rfl, Bool.not_true, cond_false]
  simp only [List.length_cons, List.length_nil]
  rw [zaD (by omega), zaD (by omega)]
  simp only [mst2]
  cases eqI s.kind 1 <;> rfl
def svar : Stp := ⟨1, 0, 0, 0, .zero, .zero, .zero, .zero, .zero⟩
theorem zqd (V : Int) : okS V svar := ⟨⟨by decide, by decide⟩, ⟨zay, zay, zay, zay, zay⟩, fun h => absurd h (by decide), fun h => absurd h (by decide), fun h => absurd h (by decide)⟩
theorem zk2 {N : Nat} (hN : 100 <= N) {pb rw : List Row} {sm : List Pr} {pv vs : List Fr} {st : List Stp} (h1 : pb.length < 8) (h2 : pb.length + rw.length <= 64) (h3 : sm.length < 200) (h4 : vs.length < 200)
    (h5 : st.length < 1000) (c : Fr) :
    q185 N 0 0 [] [] pv vs st (vs.length : Int) pb rw sm c = some ((0, 0, [], [], pv, vs ++ [c], st ++ [svar], ()), (((vs.length + 1 : Nat) : Int), pb, rw, sm, ()), (vs.length : Int), ()) := by
  unfold q185
  rw [show Stp.mk 1 0 0 0 Fr.zero Fr.zero Fr.zero Fr.zero Fr.zero = svar from rfl, zib hN (zqd _) h1 (by rw [show (zaF svar).length = 0 from rfl]; omega) h3 h4 h5 (by omega) c]
  simp only [bsm]
  show some ((0, 0, [], [], pv, vs ++ [c], st ++ [svar], ()), (((vs.length + 1 : Nat) : Int), pb, rw ++ [], sm, ()), (vs.length : Int), ()) = _
  rw [List.append_nil]
end
section
structure PlS where
  n : Nat
  pv : List Fr
  vs : List Fr
  st : List Stp
  pb : List Row
  rw : List Row
  sm : List Pr
def zdy (n : Nat) : Fr := ⟨u64I (n : Int), 0, 0, 0⟩
def five : Fr := ⟨5, 0, 0, 0⟩
def fneg (a : Fr) : Fr := frN ((RR - fv a) % RR)
def PlS.val (s : PlS) (x : Nat) : Fr := s.vs.getD x Fr.zero
def PlS.two (s : PlS) (n : Nat) (c : Fr) (t : Stp) : PlS := ⟨n, s.pv, s.vs ++ [c], s.st ++ [svar] ++ [t], s.pb, s.rw ++ zaF t, cond (eqI t.kind 6) (s.sm ++ [⟨t.v0, t.v1⟩]) s.sm⟩
def tMul (x y z : Nat) (k : Fr) : Stp := ⟨2, x, y, z, one1, k, .zero, fneg one1, five⟩
def zse (z : Nat) : Stp := ⟨3, z, 0, 0, .zero, .zero, .zero, .zero, .zero⟩
def tPow (x z : Nat) : Stp := ⟨4, x, 0, z, .zero, .zero, .zero, .zero, .zero⟩
def zsf (x y z : Nat) : Stp := ⟨5, x, y, z, .zero, .zero, .zero, .zero, .zero⟩
def zsg (z x : Nat) : Stp := ⟨6, z, x, 0, .zero, .zero, .zero, .zero, .zero⟩
def tPub (x : Nat) : Stp := ⟨7, x, 0, 0, .zero, .zero, .zero, .zero, .zero⟩
def tNo (x : Nat) : Stp := ⟨2, x, -5, x, .zero, one1, .zero, fneg one1, .zero⟩
inductive Gate : PlS -> PlS -> Prop
  | mul {s : PlS} (n x y k : Nat) (hx : x < s.vs.length) (hy : y < s.vs.length) (hk : k < 9) :
      Gate s (s.two n (fadd (fadd (fmul (s.val x) (s.val y)) (fmul (zdy k) (s.val x))) five) (tMul x y s.vs.length (zdy k)))
  | bool {s : PlS} (n k : Nat) (hk : k < 2) : Gate s (s.two n (zdy k) (zse s.vs.length))
  | pow {s : PlS} (n x : Nat) (hx : x < s.vs.length) : Gate s (s.two n (frN (fv (s.val x) ^ 5 % RR)) (tPow x s.vs.length))
  | next {s : PlS} (n x y : Nat) (hx : x < s.vs.length) (hy : y < s.vs.length) : Gate s (s.two n (fadd (s.val x) (s.val y)) (zsf x y s.vs.length))
  | same {s : PlS} (n x : Nat) (hx : x < s.vs.length) : Gate s (s.two n (s.val x) (zsg s.vs.length x))
  | pub {s : PlS} (n x : Nat) (hx : x < s.vs.length) (hp : s.pv.length < 3) : Gate s ⟨n, s.pv ++ [s.val x], s.vs, s.st ++ [tPub x], s.pb ++ [zeq x], s.rw, s.sm⟩
  | skip {s : PlS} (n : Nat) : Gate s ⟨n, s.pv, s.vs, s.st, s.pb, s.rw, s.sm⟩
  | no {s : PlS} (n x : Nat) (hx : x < s.vs.length) : Gate s ⟨n, s.pv, s.vs, s.st ++ [tNo x], s.pb, s.rw ++ zaF (tNo x), s.sm⟩
structure PlI (g : Nat) (s : PlS) : Prop where
  v2 : 2 <= s.vs.length
  v : s.vs.length <= 2 + g
  p : s.pv.length <= 3
  pp : s.pb.length = s.pv.length
  r : s.rw.length <= 2 * g
  m : s.sm.length <= g
  st : s.st.length <= 2 + 2 * g
  sc : ∀ x ∈ s.vs, Sc x
theorem PlI.val {g : Nat} {s : PlS} (h : PlI g s) (x : Nat) : Sc (s.val x) := by
  unfold PlS.val
  rcases Nat.lt_or_ge x s.vs.length with h1 | h1
  . rw [List.getD_eq_getElem?_getD, List.getElem?_eq_getElem h1]
    exact h.sc _ (List.getElem_mem h1)
  . rw [List.getD_eq_getElem?_getD, List.getElem?_eq_none h1]
    exact zay
theorem zqe {k : Nat} (h : k < 1000) : fv (zdy k) = k := by
  have e : (u64I (k : Int)).toNat = k := zrU (by omega)
  exact (zh6 _).trans e
theorem zqf : 1000 < RR := by decide +kernel
theorem zc3 {k : Nat} (h : k < 1000) : Sc (zdy k) := by
  unfold Sc
  rw [zqe h]
  have := zqf
  omega
theorem zqg : Sc five := by unfold Sc five; decide +kernel
theorem zgr : Sc one1 := by unfold Sc one1; decide +kernel
theorem zs9 (a : Fr) : Sc (fneg a) := by unfold Sc fneg; rw [zhk]; exact Nat.mod_lt _ (by have := zqf; omega)
theorem zl0 (n : Nat) : Sc (frN (n % RR)) := by unfold Sc; rw [zhk]; exact Nat.mod_lt _ (by have := zqf; omega)
theorem zgs (a b : Fr) : Sc (fadd a b) := zl0 _
theorem zqh (a b : Fr) : Sc (fmul a b) := zl0 _
theorem zqi {V : Int} {x y z : Nat} {k : Fr} (hx : (x : Int) < V) (hy : (y : Int) < V) (hz : (z : Int) < V) (hk : Sc k) : okS V (tMul x y z k) :=
  ⟨⟨by show (1 : Int) <= 2; decide, by show (2 : Int) <= 7; decide⟩, ⟨zgr, hk, zay, zs9 _, zqg⟩, fun _ => ⟨hx, .inr rfl⟩, fun _ => ⟨hy, .inr rfl⟩, fun _ => ⟨hz, .inr rfl⟩⟩
theorem zk3 {V : Int} {z : Nat} (hz : (z : Int) < V) : okS V (zse z) :=
  ⟨⟨by show (1 : Int) <= 3; decide, by show (3 : Int) <= 7; decide⟩, ⟨zay, zay, zay, zay, zay⟩, fun _ => ⟨hz, .inl (show (0 : Int) <= (z : Int) by omega)⟩, fun h => absurd h (by show ¬ ((3 : Int) = 2 \/ (3 : Int) = 5 \/ (3 : Int) = 6); decide), fun h => absurd h (by show ¬ ((3 : Int) = 2 \/ (3 : Int) = 4 \/ (3 : Int) = 5); decide)⟩
theorem zqj {V : Int} {x z : Nat} (hx : (x : Int) < V) (hz : (z : Int) < V) : okS V (tPow x z) :=
  ⟨⟨by show (1 : Int) <= 4; decide, by show (4 : Int) <= 7; decide⟩, ⟨zay, zay, zay, zay, zay⟩, fun _ => ⟨hx, .inl (show (0 : Int) <= (x : Int) by omega)⟩, fun h => absurd h (by show ¬ ((4 : Int) = 2 \/ (4 : Int) = 5 \/ (4 : Int) = 6); decide), fun _ => ⟨hz, .inl (show (0 : Int) <= (z : Int) by omega)⟩⟩
theorem zk4 {V : Int} {x y z : Nat} (hx : (x : Int) < V) (hy : (y : Int) < V) (hz : (z : Int) < V) : okS V (zsf x y z) :=
  ⟨⟨by show (1 : Int) <= 5; decide, by show (5 : Int) <= 7; decide⟩, ⟨zay, zay, zay, zay, zay⟩, fun _ => ⟨hx, .inl (show (0 : Int) <= (x : Int) by omega)⟩, fun _ => ⟨hy, .inl (show (0 : Int) <= (y : Int) by omega)⟩, fun _ => ⟨hz, .inl (show (0 : Int) <= (z : Int) by omega)⟩⟩
theorem zk5 {V : Int} {x z : Nat} (hx : (x : Int) < V) (hz : (z : Int) < V) : okS V (zsg z x) :=
  ⟨⟨by show (1 : Int) <= 6; decide, by show (6 : Int) <= 7; decide⟩, ⟨zay, zay, zay, zay, zay⟩, fun _ => ⟨hz, .inl (show (0 : Int) <= (z : Int) by omega)⟩, fun _ => ⟨hx, .inl (show (0 : Int) <= (x : Int) by omega)⟩, fun h => absurd h (by show ¬ ((6 : Int) = 2 \/ (6 : Int) = 4 \/ (6 : Int) = 5); decide)⟩
theorem zqk {V : Int} {x : Nat} (hx : (x : Int) < V) : okS V (tPub x) :=
  ⟨⟨by show (1 : Int) <= 7; decide, by show (7 : Int) <= 7; decide⟩, ⟨zay, zay, zay, zay, zay⟩, fun _ => ⟨hx, .inl (show (0 : Int) <= (x : Int) by omega)⟩, fun h => absurd h (by show ¬ ((7 : Int) = 2 \/ (7 : Int) = 5 \/ (7 : Int) = 6); decide), fun h => absurd h (by show ¬ ((7 : Int) = 2 \/ (7 : Int) = 4 \/ (7 : Int) = 5); decide)⟩
theorem zu2 {V : Int} {x : Nat} (hx : (x : Int) < V) : okS V (tNo x) :=
  ⟨⟨by show (1 : Int) <= 2; decide, by show (2 : Int) <= 7; decide⟩, ⟨zay, zgr, zay, zs9 _, zay⟩, fun _ => ⟨hx, .inr rfl⟩, fun _ => ⟨show (-5 : Int) < V by omega, .inr rfl⟩, fun _ => ⟨hx, .inr rfl⟩⟩
theorem PlI.two {g : Nat} {s : PlS} (h : PlI g s) (n : Nat) {c : Fr} (hc : Sc c) (t : Stp) (ht : (zaF t).length <= 2) : PlI (g + 1) (s.two n c t) := by
  refine ⟨?_, ?_, h.p, h.pp, ?_, ?_, ?_, ?_⟩
  . have := h.v2; simp [PlS.two]; omega
  . have := h.v; simp [PlS.two]; omega
  . have := h.r; simp [PlS.two]; omega
  . have := h.m
    unfold PlS.two
    cases eqI t.kind 6 <;> simp <;> omega
  . have := h.st; simp [PlS.two]; omega
  . intro x hx
    simp only [PlS.two, List.mem_append, List.mem_singleton] at hx
    rcases hx with hx | rfl
    . exact h.sc x hx
    . exact hc
theorem Gate.inv {g : Nat} {s s' : PlS} (hg : Gate s s') (h : PlI g s) : PlI (g + 1) s' := by
  cases hg with
  | mul n x y k hx hy hk => exact h.two n (zgs _ _) _ (show 1 <= 2 by omega)
  | bool n k hk => exact h.two n (zc3 (by omega)) _ (show 1 <= 2 by omega)
  | pow n x hx => exact h.two n (zl0 _) _ (show 1 <= 2 by omega)
  | next n x y hx hy => exact h.two n (zgs _ _) _ (show 2 <= 2 by omega)
  | same n x hx => exact h.two n (h.val x) _ (show 0 <= 2 by omega)
  | pub n x hx hp =>
    have := h.v2; have := h.v; have := h.pp; have := h.r; have := h.m; have := h.st
    refine ⟨by simpa using h.v2, by simp only; omega, by simp; omega, by simp; omega, by simp only; omega, by simp only; omega, by simp; omega, h.sc⟩
  | skip n =>
    have := h.v2; have := h.v; have := h.pp; have := h.r; have := h.m; have := h.st
    exact ⟨by simpa using h.v2, by simp only; omega, h.p, h.pp, by simp only; omega, by simp only; omega, by simp only; omega, h.sc⟩
  | no n x hx =>
    have := h.v2; have := h.v; have := h.pp; have := h.r; have := h.m; have := h.st
    refine ⟨by simpa using h.v2, by simp only; omega, h.p, h.pp, ?_, by simp only; omega, by simp; omega, h.sc⟩
    simp only [List.length_append, show (zaF (tNo x)).length = 1 from rfl]; omega
abbrev Lp95 := (List UInt8) -> Int -> Int -> Int -> Int -> Int -> Int -> Int -> Int -> Fr -> (List Row) -> (List Pr) -> (List Fr) -> (List Fr) -> (List Stp) -> (List Row) -> (List Pr) -> (List Fr) -> (List Fr) -> (List Stp) -> (List Row) -> (List Row) -> (List Pr) -> Option ((Int × Int × List Row × List Pr × List Fr × List Fr × List Stp × Unit) × Unit)
def Lp95.at (A : Lp95) (l : List UInt8) (most g : Int) (s : PlS) : Option ((Int × Int × List Row × List Pr × List Fr × List Fr × List Stp × Unit) × Unit) :=
  A l most g 0 0 0 0 (s.n : Int) (s.vs.length : Int) one1 [] [] [] [] [] [] [] s.pv s.vs s.st s.pb s.rw s.sm
theorem zjj {N g : Nat} (hN : 100 <= N) (hg : g <= 20) {s : PlS} (h : PlI g s) (n : Nat) {c d : Fr} (hc : Sc c) {t : Stp} (ht : okS ((s.vs.length + 1 : Nat) : Int) t) (h2 : (zaF t).length <= 2) (h7 : eqI t.kind 7 = false) (h1 : eqI t.kind 1 = false) :
    q187 N 0 0 [] [] s.pv (s.vs ++ [c]) (s.st ++ [svar]) (((s.vs.length + 1 : Nat)) : Int) s.pb s.rw s.sm t d =
      some ((0, 0, [], [], (s.two n c t).pv, (s.two n c t).vs, (s.two n c t).st, ()), (((s.two n c t).vs.length : Int), (s.two n c t).pb, (s.two n c t).rw, (s.two n c t).sm, ()), 0, ()) := by
  have := h.v2; have := h.v; have := h.pp; have := h.p; have := h.r; have := h.m; have := h.st
  rw [zib hN ht (by omega) (by omega) (by omega) (by omega) (by simp; omega) (by simp; omega)]
  rw [h7, h1]
  simp only [cond_false, PlS.two, List.length_append, List.length_cons, List.length_nil]
section
variable {N g : Nat} (hN : 2000 <= N) (hg : g <= 14) {s : PlS} (h : PlI g s) (hn : s.n <= 2 + 4 * g) (l : List UInt8) (most : Int) (A : Lp95)
include hN hg h
theorem zsh (c : Fr) : q185 N 0 0 [] [] s.pv s.vs s.st (s.vs.length : Int) s.pb s.rw s.sm c = some ((0, 0, [], [], s.pv, s.vs ++ [c], s.st ++ [svar], ()), (((s.vs.length + 1 : Nat) : Int), s.pb, s.rw, s.sm, ()), (s.vs.length : Int), ()) := by
  have := h.v2; have := h.v; have := h.pp; have := h.p; have := h.r; have := h.m; have := h.st
  exact zk2 (by omega) (by omega) (by omega) (by omega) (by omega) (by omega) c
include hn
theorem zsi (hlt : (g : Int) < most) (hl : s.n < l.length) : ∃ s', Gate s s' /\ s'.n <= s.n + 4 /\ zjg N A l most (g : Int) 0 0 0 0 (s.n : Int) (s.vs.length : Int) one1 [] [] [] [] [] [] [] s.pv s.vs s.st s.pb s.rw s.sm = Lp95.at A l most ((g + 1 : Nat) : Int) s' := by
  have hv2 := h.v2; have hv := h.v; have hpp := h.pp; have hp3 := h.p; have hr := h.r; have hm := h.m; have hst := h.st
  generalize hx : numX l s.n s.vs.length = x
  have hxl : x < s.vs.length := by rw [← hx]; exact zdS _ _ (by omega)
  generalize hn1 : numN l s.n = n1
  have hn1' : n1 <= s.n + 1 := by rw [← hn1]; exact zdT _ _
  generalize hy : numX l n1 s.vs.length = y
  have hyl : y < s.vs.length := by rw [← hy]; exact zdS _ _ (by omega)
  generalize hn2 : numN l n1 = n2
  have hn2' : n2 <= n1 + 1 := by rw [← hn2]; exact zdT _ _
  generalize hk : numX l n2 7 = k
  have hk7 : k < 7 := by rw [← hk]; exact zdS _ _ (by omega)
  generalize hn3 : numN l n2 = n3
  have hn3' : n3 <= n2 + 1 := by rw [← hn3]; exact zdT _ _
  have e1 : q186 N (s.n : Int) l (s.vs.length : Int) = some (((n1 : Int), ()), (x : Int), ()) := by rw [zdU (by omega) (by omega), hx, hn1]
  have e2 : q186 N (n1 : Int) l (s.vs.length : Int) = some (((n2 : Int), ()), (y : Int), ()) := by rw [zdU (by omega) (by omega), hy, hn2]
  have e3 : q186 N (n2 : Int) l 7 = some (((n3 : Int), ()), (k : Int), ()) := by rw [show (7 : Int) = ((7 : Nat) : Int) from rfl, zdU (by omega) (by omega), hk, hn3]
  have e9 : q186 N (n3 : Int) l 9 = some ((((numN l n3 : Nat) : Int), ()), ((numX l n3 9 : Nat) : Int), ()) := by rw [show (9 : Int) = ((9 : Nat) : Int) from rfl, zdU (by omega) (by omega)]
  have e22 : q186 N (n3 : Int) l 2 = some ((((numN l n3 : Nat) : Int), ()), ((numX l n3 2 : Nat) : Int), ()) := by rw [show (2 : Int) = ((2 : Nat) : Int) from rfl, zdU (by omega) (by omega)]
  have hvx : List.getD s.vs x Fr.zero = s.val x := rfl
  have hvy : List.getD s.vs y Fr.zero = s.val y := rfl
  have hf := fun c => zsh hN hg h c
  unfold zjg
  rw [zav hlt, cond_true, zav (by omega), cond_true, e1]
  simp only [bsm]
  rw [e2]
  simp only [bsm]
  rw [zc2 (by omega : (0 : Int) <= (x : Int)), zav (by omega : (x : Int) < (s.vs.length : Int)), zc2 (by omega : (0 : Int) <= (y : Int)), zav (by omega : (y : Int) < (s.vs.length : Int))]
  simp only [Bool.and_self, mst2, zae, Int.toNat_natCast]
  rw [e3]
  simp only [bsm, hvx, hvy]
  have hks : k = 0 \/ k = 1 \/ k = 2 \/ k = 3 \/ k = 4 \/ k = 5 \/ k = 6 := by omega
  rcases hks with rfl | rfl | rfl | rfl | rfl | rfl | rfl
  . rw [show eqI ((0 : Nat) : Int) 0 = true from rfl, cond_true, e9]
    simp only [bsm, zkQ]
    have hk9 : numX l n3 9 < 9 := zdS _ _ (by omega)
    rw [mulR (by omega) (h.val y)]
    simp only [bsm]
    rw [show (Fr.mk (u64I ((numX l n3 9 : Nat) : Int)) 0 0 0) = zdy (numX l n3 9) from rfl, show (Fr.mk 5 0 0 0) = five from rfl, mulR (by omega) (h.val x)]
    simp only [bsm]
    rw [addR (by omega) (zqh _ _) (zqh _ _)]
    simp only [bsm]
    rw [addR (by omega) (zgs _ _) zqg]
    simp only [bsm]
    rw [hf]
    simp only [bsm]
    rw [zs0 (by omega) zgr]
    simp only [bsm]
    rw [show Stp.mk (2 : Int) (x : Int) (y : Int) (s.vs.length : Int) one1 (zdy (numX l n3 9)) .zero (frN ((RR - fv one1) % RR)) five = tMul x y s.vs.length (zdy (numX l n3 9)) from rfl,
      zjj (by omega) (by omega) h (numN l n3) (zgs _ _) (t := tMul x y s.vs.length (zdy (numX l n3 9))) (zqi (by omega) (by omega) (by omega) (zc3 (by omega))) (show 1 <= 2 by omega) rfl rfl]
    simp only [bsm]
    rw [zaT (by omega)]
    exact ⟨_, .mul (numN l n3) x y _ hxl hyl hk9, by have := zdT l n3; simp only [PlS.two]; omega, rfl⟩
  . rw [show eqI ((1 : Nat) : Int) 0 = false from rfl, cond_false, show eqI ((1 : Nat) : Int) 1 = true from rfl, cond_true, e22]
    simp only [bsm, zkQ]
    have hk2 : numX l n3 2 < 2 := zdS _ _ (by omega)
    rw [show (Fr.mk (u64I ((numX l n3 2 : Nat) : Int)) 0 0 0) = zdy (numX l n3 2) from rfl, hf]
    simp only [bsm]
    rw [show Stp.mk (3 : Int) (s.vs.length : Int) 0 0 .zero .zero .zero .zero .zero = zse s.vs.length from rfl,
      zjj (by omega) (by omega) h (numN l n3) (zc3 (by omega)) (t := zse s.vs.length) (zk3 (by omega)) (show 1 <= 2 by omega) rfl rfl]
    simp only [bsm]
    rw [zaT (by omega)]
    exact ⟨_, .bool (numN l n3) _ hk2, by have := zdT l n3; simp only [PlS.two]; omega, rfl⟩
  . rw [show eqI ((2 : Nat) : Int) 0 = false from rfl, cond_false, show eqI ((2 : Nat) : Int) 1 = false from rfl, cond_false, show eqI ((2 : Nat) : Int) 2 = true from rfl, cond_true]
    rw [zxs (h.val x) (by simp; omega) (by simp)]
    simp only [bsm]
    rw [show lv [(5 : UInt64)] = 5 from rfl, hf]
    simp only [bsm]
    rw [show Stp.mk (4 : Int) (x : Int) 0 (s.vs.length : Int) .zero .zero .zero .zero .zero = tPow x s.vs.length from rfl,
      zjj (by omega) (by omega) h n3 (zl0 _) (t := tPow x s.vs.length) (zqj (by omega) (by omega)) (show 1 <= 2 by omega) rfl rfl]
    simp only [bsm]
    rw [zaT (by omega)]
    exact ⟨_, .pow n3 x hxl, by simp only [PlS.two]; omega, rfl⟩
  . rw [show eqI ((3 : Nat) : Int) 0 = false from rfl, cond_false, show eqI ((3 : Nat) : Int) 1 = false from rfl, cond_false, show eqI ((3 : Nat) : Int) 2 = false from rfl, cond_false, show eqI ((3 : Nat) : Int) 3 = true from rfl, cond_true]
    rw [addR (by omega) (h.val x) (h.val y)]
    simp only [bsm]
    rw [hf]
    simp only [bsm]
    rw [show Stp.mk (5 : Int) (x : Int) (y : Int) (s.vs.length : Int) .zero .zero .zero .zero .zero = zsf x y s.vs.length from rfl,
      zjj (by omega) (by omega) h n3 (zgs _ _) (t := zsf x y s.vs.length) (zk4 (by omega) (by omega) (by omega)) (show 2 <= 2 by omega) rfl rfl]
    simp only [bsm]
    rw [zaT (by omega)]
    exact ⟨_, .next n3 x y hxl hyl, by simp only [PlS.two]; omega, rfl⟩
  . rw [show eqI ((4 : Nat) : Int) 0 = false from rfl, cond_false, show eqI ((4 : Nat) : Int) 1 = false from rfl, cond_false, show eqI ((4 : Nat) : Int) 2 = false from rfl, cond_false, show eqI ((4 : Nat) : Int) 3 = false from rfl, cond_false, show eqI ((4 : Nat) : Int) 4 = true from rfl, cond_true]
    rw [hf]
    simp only [bsm]
    rw [show Stp.mk (6 : Int) (s.vs.length : Int) (x : Int) 0 .zero .zero .zero .zero .zero = zsg s.vs.length x from rfl,
      zjj (by omega) (by omega) h n3 (h.val x) (t := zsg s.vs.length x) (zk5 (by omega) (by omega)) (show 0 <= 2 by omega) rfl rfl]
    simp only [bsm]
    rw [zaT (by omega)]
    exact ⟨_, .same n3 x hxl, by simp only [PlS.two]; omega, rfl⟩
  . rw [show eqI ((5 : Nat) : Int) 0 = false from rfl, cond_false, show eqI ((5 : Nat) : Int) 1 = false from rfl, cond_false, show eqI ((5 : Nat) : Int) 2 = false from rfl, cond_false, show eqI ((5 : Nat) : Int) 3 = false from rfl, cond_false, show eqI ((5 : Nat) : Int) 4 = false from rfl, cond_false, show eqI ((5 : Nat) : Int) 5 = true from rfl, cond_true]
    rw [zaT (by omega)]
    by_cases hp : s.pv.length < 3
    . rw [zav (by omega), cond_true]
      rw [show Stp.mk (7 : Int) (x : Int) 0 0 .zero .zero .zero .zero .zero = tPub x from rfl,
        zib (s := tPub x) (by omega) (zqk (by omega)) (by omega) (by rw [show (zaF (tPub x)).length = 1 from rfl]; omega) (by omega) (by omega) (by omega) (by omega)]
      simp only [bsm]
      rw [zaD (by simp; omega), mst2]
      exact ⟨_, .pub n3 x hxl hp, by simp only; omega, rfl⟩
    . rw [zai (by omega), cond_false]
      exact ⟨_, .skip n3, by simp only; omega, rfl⟩
  . rw [show eqI ((6 : Nat) : Int) 0 = false from rfl, cond_false, show eqI ((6 : Nat) : Int) 1 = false from rfl, cond_false, show eqI ((6 : Nat) : Int) 2 = false from rfl, cond_false, show eqI ((6 : Nat) : Int) 3 = false from rfl, cond_false, show eqI ((6 : Nat) : Int) 4 = false from rfl, cond_false, show eqI ((6 : Nat) : Int) 5 = false from rfl, cond_false]
    rw [zs0 (by omega) zgr]
    simp only [bsm]
    rw [show Stp.mk (2 : Int) (x : Int) (-5) (x : Int) .zero one1 .zero (frN ((RR - fv one1) % RR)) .zero = tNo x from rfl,
      zib (s := tNo x) (by omega) (zu2 (by omega)) (by omega) (by rw [show (zaF (tNo x)).length = 1 from rfl]; omega) (by omega) (by omega) (by omega) (by omega)]
    simp only [bsm]
    rw [zaT (by omega)]
    exact ⟨_, .no n3 x hxl, by simp only; omega, rfl⟩
end
end
section
inductive Plays : PlS -> PlS -> Prop
  | refl (s : PlS) : Plays s s
  | step {s t u : PlS} : Gate s t -> Plays t u -> Plays s u
def PlS.res (s : PlS) : (Int × Int × List Row × List Pr × List Fr × List Fr × List Stp × Unit) := ((s.pb.length : Int), (s.vs.length : Int), s.pb ++ s.rw, s.sm, s.pv, s.vs, s.st, ())
theorem zta {N g : Nat} (hg : g <= 14) {s : PlS} (h : PlI g s) {R : Type} (f : (((Int × List Row × List Row × Unit) × Nat) × (Int × Int × List Row × List Pr × Unit) × Unit) -> Option R) :
    Option.bind (q118 N (s.vs.length : Int) s.pb s.rw s.sm) f = f ((((s.vs.length : Int), s.pb, s.rw, ()), s.sm.length), ((s.pb.length : Int), (s.vs.length : Int), s.pb ++ s.rw, s.sm, ()), ()) := by
  have hpp := h.pp; have hp3 := h.p; have hr := h.r
  unfold q118
  rw [zaD (by omega), zaD (by omega), mst2, mst2, bsm]
theorem zql {N most : Nat} (hN : 2000 <= N) (hmo : most <= 14) (l : List UInt8) : ∀ (k g f : Nat) (s : PlS), PlI g s -> s.n <= 2 + 4 * g -> g + k = most -> k < f ->
    ∃ s' g', g' <= most /\ Plays s s' /\ PlI g' s' /\ zkY N f l (most : Int) (g : Int) 0 0 0 0 (s.n : Int) (s.vs.length : Int) one1 [] [] [] [] [] [] [] s.pv s.vs s.st s.pb s.rw s.sm = some (s'.res, ())
  | 0, g, f + 1, s, h, hn, hk, hf => by
    refine ⟨s, g, by omega, .refl s, h, ?_⟩
    rw [zhp]
    unfold zjg
    rw [zai (by omega), cond_false, zta (by omega) h]
    rfl
  | k + 1, g, f + 1, s, h, hn, hk, hf => by
    rw [zhp]
    by_cases hl : s.n < l.length
    . obtain ⟨t, hg, hn', e⟩ := zsi hN (by omega) h hn l (most : Int) (zkY N f) (by omega) hl
      obtain ⟨s', g', q0, q1, q2, q3⟩ := zql hN hmo l k (g + 1) f t (hg.inv h) (by omega) (by omega) (by omega)
      exact ⟨s', g', q0, .step hg q1, q2, e.trans q3⟩
    . refine ⟨s, g, by omega, .refl s, h, ?_⟩
      unfold zjg
      rw [zav (by omega), cond_true, zai (by omega), cond_false, zta (by omega) h]
      rfl
def zjk (n a b : Nat) : PlS := ⟨n, [], [zdy a, zdy b], [svar, svar], [], [], []⟩
theorem zjl {n a b : Nat} (ha : a < 200) (hb : b < 2) : PlI 0 (zjk n a b) :=
  ⟨Nat.le_refl 2, Nat.le_refl 2, Nat.zero_le _, rfl, Nat.le_refl 0, Nat.le_refl 0, Nat.le_refl 2, fun x hx => by
    simp only [zjk, List.mem_cons, List.not_mem_nil, or_false] at hx
    rcases hx with rfl | rfl
    . exact zc3 (by omega)
    . exact zc3 (by omega)⟩
theorem zxR {N most : Nat} (hN : 2000 <= N) (hmo : most <= 14) (l : List UInt8) :
    ∃ n a b s g, a < 200 /\ b < 2 /\ g <= most /\ Plays (zjk n a b) s /\ PlI g s /\ q95 N l (most : Int) = some (s.res, ()) := by
  have e1 : q186 N 0 l 200 = some ((((numN l 0 : Nat) : Int), ()), ((numX l 0 200 : Nat) : Int), ()) := zdU (n := 0) (m := 200) (by omega) (by omega)
  have hn1 := zdT l 0
  have e2 : q186 N ((numN l 0 : Nat) : Int) l 2 = some ((((numN l (numN l 0) : Nat) : Int), ()), ((numX l (numN l 0) 2 : Nat) : Int), ()) := zdU (m := 2) (by omega) (by omega)
  have hn2 := zdT l (numN l 0)
  have ha : numX l 0 200 < 200 := zdS _ _ (by omega)
  have hb : numX l (numN l 0) 2 < 2 := zdS _ _ (by omega)
  have f1 := fun c => zk2 (N := N) (by omega) (pb := []) (rw := []) (sm := []) (pv := []) (vs := []) (st := []) (by simp) (by simp) (by simp) (by simp) (by simp) c
  have f2 := fun c d => zk2 (N := N) (by omega) (pb := []) (rw := []) (sm := []) (pv := []) (vs := [c]) (st := [svar]) (by simp) (by simp) (by simp) (by simp) (by simp) d
  obtain ⟨s, g, q0, q1, q2, q3⟩ := zql hN hmo l most 0 N (zjk (numN l (numN l 0)) (numX l 0 200) (numX l (numN l 0) 2)) (zjl ha hb) (by simp only [zjk]; omega) (by omega) (by omega)
  refine ⟨_, _, _, s, g, ha, hb, q0, q1, q2, ?_⟩
  unfold q95
  simp only [zkQ, bsm]
  rw [e1]
  simp only [bsm]
  rw [show q185 N 0 0 [] [] [] [] [] 0 [] [] [] (Fr.mk (u64I ((numX l 0 200 : Nat) : Int)) 0 0 0) = _ from f1 (zdy (numX l 0 200))]
  simp only [bsm]
  rw [e2]
  simp only [bsm]
  rw [show q185 N 0 0 [] [] [] ([] ++ [zdy (numX l 0 200)]) ([] ++ [svar]) (((([] : List Fr).length + 1 : Nat)) : Int) [] [] [] (Fr.mk (u64I ((numX l (numN l 0) 2 : Nat) : Int)) 0 0 0) = _ from f2 (zdy (numX l 0 200)) (zdy (numX l (numN l 0) 2))]
  simp only [bsm]
  exact q3
def zgE (V : Int) (r : Row) : Prop := bigR r = false /\ unkR V r = false /\ lowR r = false
theorem zeQ {x : Fr} (h : Sc x) : bg x = false := by unfold bg; unfold Sc at h; rw [decide_eq_true h]; rfl
theorem zdu {V : Int} {r : Row} (h0 : Sc r.q0) (h1 : Sc r.q1) (h2 : Sc r.q2) (h3 : Sc r.q3) (h4 : Sc r.q4) (h5 : Sc r.q5) (h6 : Sc r.q6) (h7 : Sc r.q7) (w0 : -1 <= r.w0 /\ r.w0 < V) (w1 : -1 <= r.w1 /\ r.w1 < V) (w2 : -1 <= r.w2 /\ r.w2 < V) : zgE V r := by
  refine ⟨?_, ?_, ?_⟩
  . unfold bigR
    rw [zeQ h0, zeQ h1, zeQ h2, zeQ h3, zeQ h4, zeQ h5, zeQ h6, zeQ h7]
    rfl
  . unfold unkR
    rw [zaC (by omega), zaC (by omega), zaC (by omega)]
    rfl
  . unfold lowR
    rw [zai (by omega), zai (by omega), zai (by omega)]
    rfl
theorem zu3 {V v : Int} (hV : 0 <= V) (h : v < V) : -1 <= mxI v (-1) /\ mxI v (-1) < V := by
  unfold mxI
  by_cases h1 : v < -1
  . rw [zav h1, cond_true]; omega
  . rw [zai h1, cond_false]; omega
theorem zdv {V : Int} (hV : 0 <= V) {s : Stp} (h : okS V s) : ∀ r ∈ zaF s, zgE V r := by
  obtain ⟨k, v0, v1, v2, q0, q1, q2, q3, q4⟩ := s
  obtain ⟨⟨k1, k2⟩, ⟨a0, a1, a2, a3, a4⟩, b0, b1, b2⟩ := h
  simp only at k1 k2 b0 b1 b2 a0 a1 a2 a3 a4
  have hk : k = 1 \/ k = 2 \/ k = 3 \/ k = 4 \/ k = 5 \/ k = 6 \/ k = 7 := by omega
  have z := zay
  have o := zgr
  have m : -1 <= (-1 : Int) /\ (-1 : Int) < V := by omega
  intro r hr
  rcases hk with rfl | rfl | rfl | rfl | rfl | rfl | rfl
  . cases (show r ∈ ([] : List Row) from hr)
  . have hr : r ∈ [Row.mk q0 q1 q2 q3 q4 .zero .zero .zero (mxI v0 (-1)) (mxI v1 (-1)) (mxI v2 (-1))] := hr
    rw [List.mem_singleton] at hr; subst hr
    exact zdu a0 a1 a2 a3 a4 z z z (zu3 hV (b0 (by omega)).1) (zu3 hV (b1 (by omega)).1) (zu3 hV (b2 (by omega)).1)
  . have hr : r ∈ [Row.mk .zero .zero .zero .zero .zero one1 .zero .zero v0 (-1) (-1)] := hr
    rw [List.mem_singleton] at hr; subst hr
    have := b0 (by omega)
    unfold okV at this
    exact zdu z z z z z o z z (by simp only; omega) m m
  . have hr : r ∈ [Row.mk .zero .zero .zero .zero .zero .zero one1 .zero v0 (-1) v2] := hr
    rw [List.mem_singleton] at hr; subst hr
    have h0 := b0 (by omega)
    have h2 := b2 (by omega)
    unfold okV at h0 h2
    exact zdu z z z z z z o z (by simp only; omega) m (by simp only; omega)
  . have hr : r ∈ [Row.mk .zero .zero .zero .zero .zero .zero .zero one1 v0 v1 (-1), Row.mk .zero .zero .zero .zero .zero .zero .zero .zero v2 (-1) (-1)] := hr
    have h0 := b0 (by omega)
    have h1 := b1 (by omega)
    have h2 := b2 (by omega)
    unfold okV at h0 h1 h2
    simp only [List.mem_cons, List.not_mem_nil, or_false] at hr
    rcases hr with rfl | rfl
    . exact zdu z z z z z z z o (by simp only; omega) (by simp only; omega) m
    . exact zdu z z z z z z z z (by simp only; omega) m m
  . cases (show r ∈ ([] : List Row) from hr)
  . have hr : r ∈ [Row.mk .zero ⟨1, 0, 0, 0⟩ .zero .zero .zero .zero .zero .zero v0 (-1) (-1)] := hr
    rw [List.mem_singleton] at hr; subst hr
    have := b0 (by omega)
    unfold okV at this
    exact zdu z o z z z z z z (by simp only; omega) m m
theorem zgE.mono {V W : Int} (h : V <= W) {r : Row} (hr : zgE V r) : zgE W r := by
  obtain ⟨a, b, c⟩ := hr
  refine ⟨a, ?_, c⟩
  unfold unkR at b ⊢
  simp only [Bool.or_eq_false_iff] at b
  obtain ⟨⟨b0, b1⟩, b2⟩ := b
  have := of_decide_eq_false b0
  have := of_decide_eq_false b1
  have := of_decide_eq_false b2
  rw [zaC (by omega), zaC (by omega), zaC (by omega)]
  rfl
structure GdI (s : PlS) : Prop where
  pb : ∀ r ∈ s.pb, ∃ x : Nat, x < s.vs.length /\ r = zeq x
  rw : ∀ r ∈ s.rw, zgE (s.vs.length : Int) r
  sm : ∀ p ∈ s.sm, (0 <= p.x /\ p.x < (s.vs.length : Int)) /\ 0 <= p.y /\ p.y < (s.vs.length : Int)
theorem GdI.two {s : PlS} (h : GdI s) (n : Nat) (c : Fr) {t : Stp} (ht : okS ((s.vs.length + 1 : Nat) : Int) t) : GdI (s.two n c t) := by
  have hl : (s.two n c t).vs.length = s.vs.length + 1 := by simp [PlS.two]
  refine ⟨fun r hr => ?_, fun r hr => ?_, fun p hp => ?_⟩
  . obtain ⟨x, hx, e⟩ := h.pb r hr
    exact ⟨x, by omega, e⟩
  . rw [hl]
    simp only [PlS.two, List.mem_append] at hr
    rcases hr with hr | hr
    . exact (h.rw r hr).mono (by omega)
    . exact zdv (by omega) ht r hr
  . rw [hl]
    have old : ∀ p ∈ s.sm, (0 <= p.x /\ p.x < ((s.vs.length + 1 : Nat) : Int)) /\ 0 <= p.y /\ p.y < ((s.vs.length + 1 : Nat) : Int) := fun p hp => by
      have := h.sm p hp
      omega
    simp only [PlS.two] at hp
    cases h6 : eqI t.kind 6 with
    | false => rw [h6] at hp; exact old p hp
    | true =>
      rw [h6] at hp
      simp only [cond_true, List.mem_append, List.mem_singleton] at hp
      rcases hp with hp | rfl
      . exact old p hp
      . have h6 : t.kind = 6 := of_decide_eq_true h6
        obtain ⟨_, _, b0, b1, _⟩ := ht
        have h0 := b0 (by omega)
        have h1 := b1 (by omega)
        unfold okV at h0 h1
        simp only
        omega
theorem Gate.good {g : Nat} {s s' : PlS} (hg : Gate s s') (hi : PlI g s) (h : GdI s) : GdI s' := by
  cases hg with
  | mul n x y k hx hy hk => exact h.two n _ (zqi (by omega) (by omega) (by omega) (zc3 (by omega)))
  | bool n k hk => exact h.two n _ (zk3 (by omega))
  | pow n x hx => exact h.two n _ (zqj (by omega) (by omega))
  | next n x y hx hy => exact h.two n _ (zk4 (by omega) (by omega) (by omega))
  | same n x hx => exact h.two n _ (zk5 (by omega) (by omega))
  | pub n x hx hp =>
    refine ⟨fun r hr => ?_, h.rw, h.sm⟩
    simp only [List.mem_append, List.mem_singleton] at hr
    rcases hr with hr | rfl
    . exact h.pb r hr
    . exact ⟨x, hx, rfl⟩
  | skip n => exact ⟨h.pb, h.rw, h.sm⟩
  | no n x hx =>
    refine ⟨h.pb, fun r hr => ?_, h.sm⟩
    simp only [List.mem_append] at hr
    rcases hr with hr | hr
    . exact h.rw r hr
    . exact zdv (V := (s.vs.length : Int)) (by omega) (zu2 (by omega)) r hr
theorem Plays.keep {P : PlS -> Prop} (hP : ∀ g s s', PlI g s -> Gate s s' -> P s -> P s') : ∀ {s s' : PlS}, Plays s s' -> ∀ g, PlI g s -> P s -> P s' := by
  intro s s' h
  induction h with
  | refl s => exact fun _ _ h => h
  | step h1 _ ih => exact fun g hi h => ih (g + 1) (h1.inv hi) (hP g _ _ hi h1 h)
theorem zl1 {V : Int} {x : Nat} (h : (x : Int) < V) : zgE V (zeq x) := zdv (by omega) (zqk h) _ (List.mem_singleton.2 rfl)
theorem zhq (r : Row) : zaS r r = true := by
  unfold zaS
  simp [eqI]
theorem zhr {x : Nat} : zlZ (zeq x) = false := by
  unfold zlZ
  rw [show (zeq (x : Int)).w0 = (x : Int) from rfl, zai (by omega), zhq]
  rfl
theorem zic {P : Int} : ∀ (l : List Row) (i : Nat), (∀ r ∈ l, lowR r = false) -> (∀ (j : Nat) (r : Row), l[j]? = some r -> ((i + j : Nat) : Int) < P -> zlZ r = false) -> zk1 P i l = false
  | [], _, _, _ => rfl
  | r :: l, i, h1, h2 => by
    unfold zk1
    rw [h1 r List.mem_cons_self, zic l (i + 1) (fun r hr => h1 r (List.mem_cons_of_mem _ hr)) fun j x hx hj => h2 (j + 1) x (by simpa using hx) (by omega)]
    by_cases hi : (i : Int) < P
    . rw [h2 0 r rfl (by simpa using hi)]
      cases ltI (i : Int) P <;> rfl
    . rw [zai hi]; rfl
theorem zsj {g : Nat} {s : PlS} (hi : PlI g s) (hg : g <= 14) (h : GdI s) : GoodCirc (s.pb.length : Int) (s.vs.length : Int) (s.pb ++ s.rw) s.sm := by
  have hv2 := hi.v2; have hv := hi.v; have hpp := hi.pp; have hp3 := hi.p; have hr := hi.r; have hm := hi.m
  have hall : ∀ r ∈ s.pb ++ s.rw, zgE (s.vs.length : Int) r := fun r hr => by
    rcases List.mem_append.1 hr with hr | hr
    . obtain ⟨x, hx, rfl⟩ := h.pb r hr
      exact zl1 (by omega)
    . exact h.rw r hr
  refine ⟨by omega, by omega, by omega, by omega, by simp; omega, by omega, by simp; omega, ?_, ?_, ?_, ?_⟩
  . exact List.any_eq_false.2 fun r hr => by rw [(hall r hr).1]; simp
  . exact List.any_eq_false.2 fun r hr => by rw [(hall r hr).2.1]; simp
  . refine List.any_eq_false.2 fun p hp => ?_
    have := h.sm p hp
    unfold unkP
    rw [zai (by omega), zaC (by omega), zai (by omega), zaC (by omega)]
    simp
  . refine zic _ _ (fun r hr => (hall r hr).2.2) fun j r hr hj => ?_
    have hlt : j < s.pb.length := by omega
    rw [List.getElem?_append_left hlt] at hr
    obtain ⟨x, hx, rfl⟩ := h.pb r (List.mem_of_getElem? hr)
    exact zhr
theorem zm2 (n a b : Nat) : GdI (zjk n a b) := ⟨fun r h => (by cases h), fun r h => (by cases h), fun p h => (by cases h)⟩
theorem zsk {N most : Nat} (hN : 2000 <= N) (hmo : most <= 14) (l : List UInt8) :
    ∃ n a b s g, a < 200 /\ b < 2 /\ g <= most /\ Plays (zjk n a b) s /\ PlI g s /\ GdI s /\ GoodCirc (s.pb.length : Int) (s.vs.length : Int) (s.pb ++ s.rw) s.sm /\ q95 N l (most : Int) = some (s.res, ()) := by
  obtain ⟨n, a, b, s, g, ha, hb, hg, hp, hi, e⟩ := zxR hN hmo l
  have hgood : GdI s := Plays.keep (P := GdI) (fun g s s' hi hg h => hg.good hi h) hp 0 (zjl ha hb) (zm2 n a b)
  exact ⟨n, a, b, s, g, ha, hb, hg, hp, hi, hgood, zsj hi (by omega) hgood, e⟩
end
section
def badV (kd V v : Int) : Bool := leI V v || (ltI v 0 && !eqI kd 2)
def badQ (s : Stp) : Bool := bg s.q0 || bg s.q1 || bg s.q2 || bg s.q3 || bg s.q4
def badN (V : Int) (s : Stp) : Bool := (ltI 1 s.kind && badV s.kind V s.v0) || ((eqI s.kind 2 || eqI s.kind 5 || eqI s.kind 6) && badV s.kind V s.v1) || ((eqI s.kind 2 || eqI s.kind 4 || eqI s.kind 5) && badV s.kind V s.v2)
def errS (V : Int) (s : Stp) : Int := cond (ltI s.kind 1 || ltI 7 s.kind) 11 (cond (badQ s) 4 (cond (badN V s) 10 0))
theorem zer {x : Fr} (h : bg x = false) : Sc x := by
  unfold bg at h
  unfold Sc
  simpa using h
theorem zeR {kd V v : Int} (h : badV kd V v = false) : okV kd V v := by
  unfold badV at h
  simp only [Bool.or_eq_false_iff, Bool.and_eq_false_iff, Bool.not_eq_false'] at h
  obtain ⟨h1, h2⟩ := h
  have h1 := of_decide_eq_false h1
  refine ⟨by omega, ?_⟩
  rcases h2 with h2 | h2
  . have := of_decide_eq_false h2
    exact .inl (by omega)
  . exact .inr (of_decide_eq_true h2)
theorem zk6 {kd V v : Int} (h : okV kd V v) : badV kd V v = false := by
  obtain ⟨h1, h2⟩ := h
  unfold badV
  rw [zaC (by omega)]
  rcases h2 with h2 | h2
  . rw [zai (by omega)]; rfl
  . rw [za4 h2]; cases ltI v 0 <;> rfl
theorem zqm {V : Int} {s : Stp} (h : errS V s = 0) : okS V s := by
  unfold errS at h
  cases h1 : (ltI s.kind 1 || ltI 7 s.kind) with
  | true => rw [h1] at h; simp at h
  | false =>
    rw [h1, cond_false] at h
    cases h2 : badQ s with
    | true => rw [h2] at h; simp at h
    | false =>
      rw [h2, cond_false] at h
      cases h3 : badN V s with
      | true => rw [h3] at h; simp at h
      | false =>
        simp only [Bool.or_eq_false_iff] at h1
        have a1 := of_decide_eq_false h1.1
        have a2 := of_decide_eq_false h1.2
        unfold badQ at h2
        simp only [Bool.or_eq_false_iff] at h2
        obtain ⟨⟨⟨⟨c0, c1⟩, c2⟩, c3⟩, c4⟩ := h2
        unfold badN at h3
        simp only [Bool.or_eq_false_iff] at h3
        obtain ⟨⟨d0, d1⟩, d2⟩ := h3
        refine ⟨by omega, ⟨zer c0, zer c1, zer c2, zer c3, zer c4⟩, fun hk => ?_, fun hk => ?_, fun hk => ?_⟩
        . rw [zav hk, Bool.true_and] at d0; exact zeR d0
        . have : (eqI s.kind 2 || eqI s.kind 5 || eqI s.kind 6) = true := by
            rcases hk with hk | hk | hk <;> rw [hk] <;> rfl
          rw [this, Bool.true_and] at d1; exact zeR d1
        . have : (eqI s.kind 2 || eqI s.kind 4 || eqI s.kind 5) = true := by
            rcases hk with hk | hk | hk <;> rw [hk] <;> rfl
          rw [this, Bool.true_and] at d2; exact zeR d2
theorem or3 {a b c : Int} {k : Int} (h : (eqI k a || eqI k b || eqI k c) = true) : k = a \/ k = b \/ k = c := by
  simp only [Bool.or_eq_true] at h
  rcases h with (h | h) | h
  . exact .inl (of_decide_eq_true h)
  . exact .inr (.inl (of_decide_eq_true h))
  . exact .inr (.inr (of_decide_eq_true h))
theorem zu4 {V : Int} {s : Stp} (h : okS V s) : errS V s = 0 := by
  obtain ⟨⟨k1, k2⟩, ⟨a0, a1, a2, a3, a4⟩, b0, b1, b2⟩ := h
  unfold errS badQ
  rw [zai (by omega), zai (by omega), zeQ a0, zeQ a1, zeQ a2, zeQ a3, zeQ a4]
  simp only [Bool.or_self, cond_false]
  have : badN V s = false := by
    unfold badN
    simp only [Bool.or_eq_false_iff]
    refine ⟨⟨?_, ?_⟩, ?_⟩
    . cases hk : ltI 1 s.kind with
      | false => rfl
      | true => rw [Bool.true_and]; exact zk6 (b0 (of_decide_eq_true hk))
    . cases hk : (eqI s.kind 2 || eqI s.kind 5 || eqI s.kind 6) with
      | false => rfl
      | true => rw [Bool.true_and]; exact zk6 (b1 (or3 hk))
    . cases hk : (eqI s.kind 2 || eqI s.kind 4 || eqI s.kind 5) with
      | false => rfl
      | true => rw [Bool.true_and]; exact zk6 (b2 (or3 hk))
  rw [this, cond_false]
theorem za7 {f : Bool} (kd V v : Int) (X : Option (Int × Unit)) : cond f (cond (leI V v) (some ((10 : Int), ())) (cond (ltI v 0) (cond (!eqI kd 2) (some ((10 : Int), ())) X) X)) X = cond (f && badV kd V v) (some ((10 : Int), ())) X := by
  unfold badV
  cases f <;> cases leI V v <;> cases ltI v 0 <;> cases eqI kd 2 <;> rfl
structure Bd where
  V : Nat
  pb : List Row
  rw : List Row
  sm : List Pr
def Bd.doS (b : Bd) (s : Stp) : Bd × Int × Int :=
  cond (eqI (errS b.V s) 0)
    (cond (ltI 64 ((b.pb.length + b.rw.length + (zaF s).length : Nat) : Int)) (b, 0, 8)
      (cond (eqI s.kind 1) (cond (leI 200 (b.V : Int)) (b, 0, 8) (⟨b.V + 1, b.pb, b.rw, b.sm⟩, (b.V : Int), 0))
        (cond (eqI s.kind 6) (cond (leI 200 (b.sm.length : Int)) (b, 0, 8) (⟨b.V, b.pb, b.rw, b.sm ++ [⟨s.v0, s.v1⟩]⟩, 0, 0))
          (cond (eqI s.kind 7) (cond (leI 8 (b.pb.length : Int)) (b, 0, 8) (⟨b.V, b.pb ++ zaF s, b.rw, b.sm⟩, 0, 0))
            (⟨b.V, b.pb, b.rw ++ zaF s, b.sm⟩, 0, 0)))))
    (b, 0, errS b.V s)
def Bd.out (b : Bd) : (Int × List Row × List Row × List Pr × Unit) := ((b.V : Int), b.pb, b.rw, b.sm, ())
structure BdI (b : Bd) : Prop where
  v : b.V <= 200
  p : b.pb.length <= 8
  r : b.pb.length + b.rw.length <= 64
  m : b.sm.length <= 200
  pb : ∀ r ∈ b.pb, ∃ x : Nat, x < b.V /\ r = zeq x
  rw : ∀ r ∈ b.rw, zgE (b.V : Int) r
  sm : ∀ p ∈ b.sm, (0 <= p.x /\ p.x < (b.V : Int)) /\ 0 <= p.y /\ p.y < (b.V : Int)
def Bd.zero : Bd := ⟨0, [], [], []⟩
theorem Bd.zero_inv : BdI Bd.zero := ⟨Nat.zero_le _, Nat.zero_le _, Nat.zero_le _, Nat.zero_le _, fun r h => (by cases h), fun r h => (by cases h), fun r h => (by cases h)⟩
theorem zqn (s : Stp) : (zaF s).length <= 2 := by
  unfold zaF
  cases eqI s.kind 2 <;> cases eqI s.kind 3 <;> cases eqI s.kind 4 <;> cases eqI s.kind 5 <;> cases eqI s.kind 7 <;> simp
theorem Bd.refused (b : Bd) (s : Stp) (h : (b.doS s).2.2 ≠ 0) : (b.doS s).1 = b := by
  unfold Bd.doS at h ⊢
  cases h0 : eqI (errS b.V s) 0 with
  | false => rfl
  | true =>
    rw [h0] at h
    cases h1 : ltI 64 ((b.pb.length + b.rw.length + (zaF s).length : Nat) : Int) with
    | true => rfl
    | false =>
      rw [h1] at h
      cases h2 : eqI s.kind 1 with
      | true =>
        cases h3 : leI 200 (b.V : Int) with
        | true => rfl
        | false => rw [h2, h3] at h; exact absurd rfl h
      | false =>
        cases h3 : eqI s.kind 6 with
        | true =>
          cases h4 : leI 200 (b.sm.length : Int) with
          | true => rfl
          | false => rw [h2, h3, h4] at h; exact absurd rfl h
        | false =>
          cases h5 : eqI s.kind 7 with
          | true =>
            cases h6 : leI 8 (b.pb.length : Int) with
            | true => rfl
            | false => rw [h2, h3, h5, h6] at h; exact absurd rfl h
          | false => rw [h2, h3, h5] at h; exact absurd rfl h
theorem BdI.doS {b : Bd} (h : BdI b) (s : Stp) : BdI (b.doS s).1 := by
  unfold Bd.doS
  cases h0 : eqI (errS b.V s) 0 with
  | false => exact h
  | true =>
    have hok := zqm (of_decide_eq_true h0)
    cases h1 : ltI 64 ((b.pb.length + b.rw.length + (zaF s).length : Nat) : Int) with
    | true => exact h
    | false =>
      have h1 := of_decide_eq_false h1
      cases h2 : eqI s.kind 1 with
      | true =>
        cases h3 : leI 200 (b.V : Int) with
        | true => exact h
        | false =>
          have h3 := of_decide_eq_false h3
          refine ⟨by show b.V + 1 <= 200; omega, h.p, h.r, h.m, fun r hr => ?_, fun r hr => (h.rw r hr).mono (by show (b.V : Int) <= ((b.V + 1 : Nat) : Int); omega), fun p hp => ?_⟩
          . obtain ⟨x, hx, e⟩ := h.pb r hr
            exact ⟨x, by show x < b.V + 1; omega, e⟩
          . have := h.sm p hp
            show (0 <= p.x /\ p.x < ((b.V + 1 : Nat) : Int)) /\ 0 <= p.y /\ p.y < ((b.V + 1 : Nat) : Int)
            omega
      | false =>
        cases h3 : eqI s.kind 6 with
        | true =>
          have k6 : s.kind = 6 := of_decide_eq_true h3
          cases h4 : leI 200 (b.sm.length : Int) with
          | true => exact h
          | false =>
            have h4 := of_decide_eq_false h4
            refine ⟨h.v, h.p, h.r, by show (b.sm ++ [_]).length <= 200; simp; omega, h.pb, h.rw, fun p hp => ?_⟩
            have hp : p ∈ b.sm ++ [⟨s.v0, s.v1⟩] := hp
            rcases List.mem_append.1 hp with hp | hp
            . exact h.sm p hp
            . rw [List.mem_singleton] at hp
              subst hp
              obtain ⟨_, _, b0, b1, _⟩ := hok
              have g0 := b0 (by omega)
              have g1 := b1 (by omega)
              unfold okV at g0 g1
              show (0 <= s.v0 /\ s.v0 < (b.V : Int)) /\ 0 <= s.v1 /\ s.v1 < (b.V : Int)
              omega
        | false =>
          cases h5 : eqI s.kind 7 with
          | true =>
            have k7 : s.kind = 7 := of_decide_eq_true h5
            cases h6 : leI 8 (b.pb.length : Int) with
            | true => exact h
            | false =>
              have h6 := of_decide_eq_false h6
              have e : zaF s = [zeq s.v0] := by unfold zaF; rw [k7]; rfl
              rw [e] at h1
              simp only [List.length_cons, List.length_nil] at h1
              refine ⟨h.v, by show (b.pb ++ zaF s).length <= 8; rw [e]; simp; omega, by show (b.pb ++ zaF s).length + b.rw.length <= 64; rw [e]; simp; omega, h.m, fun r hr => ?_, h.rw, h.sm⟩
              have hr : r ∈ b.pb ++ zaF s := hr
              rw [e] at hr
              rcases List.mem_append.1 hr with hr | hr
              . exact h.pb r hr
              . rw [List.mem_singleton] at hr
                subst hr
                obtain ⟨_, _, b0, _⟩ := hok
                have g0 := b0 (by omega)
                unfold okV at g0
                refine ⟨s.v0.toNat, by show s.v0.toNat < b.V; omega, ?_⟩
                rw [Int.toNat_of_nonneg (by omega)]
          | false =>
            refine ⟨h.v, h.p, by show b.pb.length + (b.rw ++ zaF s).length <= 64; simp; omega, h.m, h.pb, fun r hr => ?_, h.sm⟩
            have hr : r ∈ b.rw ++ zaF s := hr
            rcases List.mem_append.1 hr with hr | hr
            . exact h.rw r hr
            . exact zdv (by omega) hok r hr
theorem Bd.doS_ok {b : Bd} {s : Stp} (h : okS (b.V : Int) s) (h1 : s.kind = 7 -> b.pb.length < 8) (h2 : b.pb.length + b.rw.length + (zaF s).length <= 64) (h3 : s.kind = 6 -> b.sm.length < 200) (h4 : s.kind = 1 -> b.V < 200) :
    b.doS s = (⟨cond (eqI s.kind 1) (b.V + 1) b.V, cond (eqI s.kind 7) (b.pb ++ zaF s) b.pb, cond (eqI s.kind 7) b.rw (b.rw ++ zaF s), cond (eqI s.kind 6) (b.sm ++ [⟨s.v0, s.v1⟩]) b.sm⟩, cond (eqI s.kind 1) (b.V : Int) 0, 0) := by
  unfold Bd.doS
  rw [zu4 h, za4 rfl, cond_true, zai (by omega), cond_false]
  cases k1 : eqI s.kind 1 with
  | true =>
    have k1 : s.kind = 1 := of_decide_eq_true k1
    have := h4 k1
    have e : zaF s = [] := by unfold zaF; rw [k1]; rfl
    rw [zaC (by omega), k1, e]
    simp only [cond_true, cond_false, List.append_nil]
    rfl
  | false =>
    rw [cond_false, cond_false, cond_false]
    cases k6 : eqI s.kind 6 with
    | true =>
      have k6 : s.kind = 6 := of_decide_eq_true k6
      have := h3 k6
      have e : zaF s = [] := by unfold zaF; rw [k6]; rfl
      rw [zaC (by omega), k6, e]
      simp only [cond_true, cond_false, List.append_nil]
      rfl
    | false =>
      rw [cond_false, cond_false]
      cases k7 : eqI s.kind 7 with
      | true =>
        have k7 : s.kind = 7 := of_decide_eq_true k7
        have := h1 k7
        rw [zaC (by omega)]
        rfl
      | false => rfl
theorem BdI.good {b : Bd} (h : BdI b) : GoodCirc (b.pb.length : Int) (b.V : Int) (b.pb ++ b.rw) b.sm := by
  have h1 := h.v; have h2 := h.p; have h3 := h.r; have h4 := h.m
  have hall : ∀ r ∈ b.pb ++ b.rw, zgE (b.V : Int) r := fun r hr => by
    rcases List.mem_append.1 hr with hr | hr
    . obtain ⟨x, hx, rfl⟩ := h.pb r hr
      exact zl1 (by omega)
    . exact h.rw r hr
  refine ⟨by omega, by omega, by omega, by omega, by simp; omega, by omega, by simp; omega, ?_, ?_, ?_, ?_⟩
  . exact List.any_eq_false.2 fun r hr => by rw [(hall r hr).1]; simp
  . exact List.any_eq_false.2 fun r hr => by rw [(hall r hr).2.1]; simp
  . refine List.any_eq_false.2 fun p hp => ?_
    have := h.sm p hp
    unfold unkP
    rw [zai (by omega), zaC (by omega), zai (by omega), zaC (by omega)]
    simp
  . refine zic _ _ (fun r hr => (hall r hr).2.2) fun j r hr hj => ?_
    have hlt : j < b.pb.length := by omega
    rw [List.getElem?_append_left hlt] at hr
    obtain ⟨x, hx, rfl⟩ := h.pb r (List.mem_of_getElem? hr)
    exact zhr
end
end Go.Proofs.Ytgimohchocjgcaa.V
