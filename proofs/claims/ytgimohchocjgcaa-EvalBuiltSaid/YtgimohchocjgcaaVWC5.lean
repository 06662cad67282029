import Derived.Test.YtgimohchocjgcaaVWB13
import Derived.KernelRfl
set_option linter.unusedVariables false
set_option linter.unusedSimpArgs false
namespace Go.Proofs.Ytgimohchocjgcaa.V
section
def numN (l : List UInt8) (n : Nat) : Nat := cond (Nat.ble l.length n) n (n + 1)
def numX (l : List UInt8) (n m : Nat) : Nat := cond (Nat.ble l.length n) 0 ((l.getD n 0).toNat % m)
theorem zd5 (l : List UInt8) (n : Nat) {m : Nat} (h : 0 < m) : numX l n m < m := by
  unfold numX
  cases Nat.ble l.length n with
  | true => exact h
  | false => exact Nat.mod_lt _ h
theorem zd6 (l : List UInt8) (n : Nat) : numN l n <= n + 1 := by
  unfold numN
  cases Nat.ble l.length n <;> simp
theorem zd7 {N n m : Nat} {l : List UInt8} (hm : 0 < m) (hn : n < 1000000) : q186 N (n : Int) l (m : Int) = some ((((numN l n : Nat) : Int), ()), ((numX l n m : Nat) : Int), ()) := by
  unfold q186 numN numX
  cases h : Nat.ble l.length n with
  | true =>
    have h1 := Nat.le_of_ble_eq_true h
    rw [zaK (by omega), cond_true]
    rfl
  | false =>
    have h1 : n < l.length := by
      rcases Nat.lt_or_ge n l.length with h2 | h2
      . exact h2
      . rw [Nat.ble_eq_true_of_le h2] at h; cases h
    rw [zaC (by omega), cond_false, zax (by omega)]
    have e : wr (((n + 1 : Nat) : Int) - 1) = (n : Int) := by rw [show (((n + 1 : Nat) : Int) - 1) = (n : Int) by omega]; exact zeU (by omega) (by omega)
    rw [e, zaK (by omega), zad (by omega), za2 (by omega), Int.toNat_natCast]
    rfl
theorem zkA {N : Nat} (hN : 10 < N) {q : Fr} (h : Sc q) : q69 N q = some (true, ()) := by rw [zvr hN]; unfold Sc at h; rw [decide_eq_true h]
theorem l196 (N M : Nat) (hN : 10 < N) (V : Int) (s : Stp) (h0 : Sc s.q0) (h1 : Sc s.q1) (h2 : Sc s.q2) (h3 : Sc s.q3) (h4 : Sc s.q4) : zg7 N (M + 6) V 0 s = zbf N (zg7 N M) V 5 s := by
  have s0 : ∀ A, zbf N A V 0 s = A V 1 s := fun A => by unfold zbf; rw [zkA hN h0]; kernel_rfl
  have s1 : ∀ A, zbf N A V 1 s = A V 2 s := fun A => by unfold zbf; rw [zkA hN h1]; kernel_rfl
  have s2 : ∀ A, zbf N A V 2 s = A V 3 s := fun A => by unfold zbf; rw [zkA hN h2]; kernel_rfl
  have s3 : ∀ A, zbf N A V 3 s = A V 4 s := fun A => by unfold zbf; rw [zkA hN h3]; kernel_rfl
  have s4 : ∀ A, zbf N A V 4 s = A V 5 s := fun A => by unfold zbf; rw [zkA hN h4]; kernel_rfl
  rw [zbK, s0, zbK, s1, zbK, s2, zbK, s3, zbK, s4, zbK]
def okV (kd V v : Int) : Prop := v < V /\ (0 <= v \/ kd = 2)
theorem zCM (N M : Nat) (V : Int) (s : Stp) (f0 f1 f2 : Bool) (h0 : f0 = true -> okV s.kind V s.v0) (h1 : f1 = true -> okV s.kind V s.v1) (h2 : f2 = true -> okV s.kind V s.v2) : zaW N (M + 4) V 0 s [f0, f1, f2] = some (0, ()) := by
  have key : ∀ (v : Int) (X : Option (Int × Unit)), okV s.kind V v -> cond (leI V v) (some ((10 : Int), ())) (cond (ltI v 0) (cond (!eqI s.kind 2) (some ((10 : Int), ())) X) X) = X := fun v X ⟨a, b⟩ => by
    rw [zaC (by omega), cond_false]
    by_cases hv : v < 0
    . rw [zad hv, cond_true, zaQ (by omega), Bool.not_true, cond_false]
    . rw [zab (by omega), cond_false]
  have s0 : ∀ A, zbJ N A V 0 s [f0, f1, f2] = A V 1 s [f0, f1, f2] := fun A => by
    have e : zbJ N A V 0 s [f0, f1, f2] = cond f0 (cond (leI V s.v0) (some ((10 : Int), ())) (cond (ltI s.v0 0) (cond (!eqI s.kind 2) (some ((10 : Int), ())) (A V 1 s [f0, f1, f2])) (A V 1 s [f0, f1, f2]))) (A V 1 s [f0, f1, f2]) := by unfold zbJ; kernel_rfl
    rw [e]
    cases f0 with
    | false => rfl
    | true => rw [cond_true, key _ _ (h0 rfl)]
  have s1 : ∀ A, zbJ N A V 1 s [f0, f1, f2] = A V 2 s [f0, f1, f2] := fun A => by
    have e : zbJ N A V 1 s [f0, f1, f2] = cond f1 (cond (leI V s.v1) (some ((10 : Int), ())) (cond (ltI s.v1 0) (cond (!eqI s.kind 2) (some ((10 : Int), ())) (A V 2 s [f0, f1, f2])) (A V 2 s [f0, f1, f2]))) (A V 2 s [f0, f1, f2]) := by unfold zbJ; kernel_rfl
    rw [e]
    cases f1 with
    | false => rfl
    | true => rw [cond_true, key _ _ (h1 rfl)]
  have s2 : ∀ A, zbJ N A V 2 s [f0, f1, f2] = A V 3 s [f0, f1, f2] := fun A => by
    have e : zbJ N A V 2 s [f0, f1, f2] = cond f2 (cond (leI V s.v2) (some ((10 : Int), ())) (cond (ltI s.v2 0) (cond (!eqI s.kind 2) (some ((10 : Int), ())) (A V 3 s [f0, f1, f2])) (A V 3 s [f0, f1, f2]))) (A V 3 s [f0, f1, f2]) := by unfold zbJ; kernel_rfl
    rw [e]
    cases f2 with
    | false => rfl
    | true => rw [cond_true, key _ _ (h2 rfl)]
  rw [zce, s0, zce, s1, zce, s2, zce]
  rfl
def ScS (s : Stp) : Prop := Sc s.q0 /\ Sc s.q1 /\ Sc s.q2 /\ Sc s.q3 /\ Sc s.q4
def okS (V : Int) (s : Stp) : Prop := (1 <= s.kind /\ s.kind <= 7) /\ ScS s /\ (1 < s.kind -> okV s.kind V s.v0) /\ (s.kind = 2 \/ s.kind = 5 \/ s.kind = 6 -> okV s.kind V s.v1) /\ (s.kind = 2 \/ s.kind = 4 \/ s.kind = 5 -> okV s.kind V s.v2)
theorem zxL {N : Nat} (hN : 100 <= N) {V : Int} {s : Stp} (h : okS V s) : q196 N s V = some (0, ()) := by
  obtain ⟨⟨k1, k2⟩, ⟨a0, a1, a2, a3, a4⟩, b0, b1, b2⟩ := h
  obtain ⟨M, rfl⟩ : ∃ M, N = M + 6 := ⟨N - 6, by omega⟩
  unfold q196
  rw [zab (by omega), cond_false, zab (by omega), cond_false, l196 _ M (by omega) V s a0 a1 a2 a3 a4]
  obtain ⟨k, v0, v1, v2, q0, q1, q2, q3, q4⟩ := s
  simp only at k1 k2 b0 b1 b2
  have go : ∀ f0 f1 f2, (f0 = true -> okV k V v0) -> (f1 = true -> okV k V v1) -> (f2 = true -> okV k V v2) -> zaW (M + 6) (M + 6) V 0 ⟨k, v0, v1, v2, q0, q1, q2, q3, q4⟩ [f0, f1, f2] = some (0, ()) := fun f0 f1 f2 h0 h1 h2 => zCM (M + 6) (M + 2) V _ f0 f1 f2 h0 h1 h2
  have hk : k = 1 \/ k = 2 \/ k = 3 \/ k = 4 \/ k = 5 \/ k = 6 \/ k = 7 := by omega
  rcases hk with rfl | rfl | rfl | rfl | rfl | rfl | rfl
  . exact (show _ = zaW (M + 6) (M + 6) V 0 ⟨1, v0, v1, v2, q0, q1, q2, q3, q4⟩ [false, false, false] by unfold zbf; kernel_rfl).trans (go _ _ _ (fun h => by cases h) (fun h => by cases h) (fun h => by cases h))
  . exact (show _ = zaW (M + 6) (M + 6) V 0 ⟨2, v0, v1, v2, q0, q1, q2, q3, q4⟩ [true, true, true] by unfold zbf; kernel_rfl).trans (go _ _ _ (fun _ => b0 (by omega)) (fun _ => b1 (by omega)) (fun _ => b2 (by omega)))
  . exact (show _ = zaW (M + 6) (M + 6) V 0 ⟨3, v0, v1, v2, q0, q1, q2, q3, q4⟩ [true, false, false] by unfold zbf; kernel_rfl).trans (go _ _ _ (fun _ => b0 (by omega)) (fun h => by cases h) (fun h => by cases h))
  . exact (show _ = zaW (M + 6) (M + 6) V 0 ⟨4, v0, v1, v2, q0, q1, q2, q3, q4⟩ [true, false, true] by unfold zbf; kernel_rfl).trans (go _ _ _ (fun _ => b0 (by omega)) (fun h => by cases h) (fun _ => b2 (by omega)))
  . exact (show _ = zaW (M + 6) (M + 6) V 0 ⟨5, v0, v1, v2, q0, q1, q2, q3, q4⟩ [true, true, true] by unfold zbf; kernel_rfl).trans (go _ _ _ (fun _ => b0 (by omega)) (fun _ => b1 (by omega)) (fun _ => b2 (by omega)))
  . exact (show _ = zaW (M + 6) (M + 6) V 0 ⟨6, v0, v1, v2, q0, q1, q2, q3, q4⟩ [true, true, false] by unfold zbf; kernel_rfl).trans (go _ _ _ (fun _ => b0 (by omega)) (fun _ => b1 (by omega)) (fun h => by cases h))
  . exact (show _ = zaW (M + 6) (M + 6) V 0 ⟨7, v0, v1, v2, q0, q1, q2, q3, q4⟩ [true, false, false] by unfold zbf; kernel_rfl).trans (go _ _ _ (fun _ => b0 (by omega)) (fun h => by cases h) (fun h => by cases h))
def one1 : Fr := ⟨1, 0, 0, 0⟩
def zbz (s : Stp) : List Row :=
  cond (eqI s.kind 2) [⟨s.q0, s.q1, s.q2, s.q3, s.q4, .zero, .zero, .zero, mxI s.v0 (-1), mxI s.v1 (-1), mxI s.v2 (-1)⟩]
    (cond (eqI s.kind 3) [⟨.zero, .zero, .zero, .zero, .zero, one1, .zero, .zero, s.v0, -1, -1⟩]
      (cond (eqI s.kind 4) [⟨.zero, .zero, .zero, .zero, .zero, .zero, one1, .zero, s.v0, -1, s.v2⟩]
        (cond (eqI s.kind 5) [⟨.zero, .zero, .zero, .zero, .zero, .zero, .zero, one1, s.v0, s.v1, -1⟩, ⟨.zero, .zero, .zero, .zero, .zero, .zero, .zero, .zero, s.v2, -1, -1⟩]
          (cond (eqI s.kind 7) [zca s.v0] []))))
theorem zAK (M : Nat) (v0 v1 v2 : Int) (q0 q1 q2 q3 q4 : Fr) : q197 (M + 8) ⟨1, v0, v1, v2, q0, q1, q2, q3, q4⟩ = some (zbz ⟨1, v0, v1, v2, q0, q1, q2, q3, q4⟩, 0, ()) := by kernel_rfl
theorem zAL (M : Nat) (v0 v1 v2 : Int) (q0 q1 q2 q3 q4 : Fr) : q197 (M + 8) ⟨2, v0, v1, v2, q0, q1, q2, q3, q4⟩ = some (zbz ⟨2, v0, v1, v2, q0, q1, q2, q3, q4⟩, 0, ()) := by kernel_rfl
theorem zAM (M : Nat) (v0 v1 v2 : Int) (q0 q1 q2 q3 q4 : Fr) : q197 (M + 8) ⟨3, v0, v1, v2, q0, q1, q2, q3, q4⟩ = some (zbz ⟨3, v0, v1, v2, q0, q1, q2, q3, q4⟩, 0, ()) := by kernel_rfl
theorem zAN (M : Nat) (v0 v1 v2 : Int) (q0 q1 q2 q3 q4 : Fr) : q197 (M + 8) ⟨4, v0, v1, v2, q0, q1, q2, q3, q4⟩ = some (zbz ⟨4, v0, v1, v2, q0, q1, q2, q3, q4⟩, 0, ()) := by kernel_rfl
theorem zAO (M : Nat) (v0 v1 v2 : Int) (q0 q1 q2 q3 q4 : Fr) : q197 (M + 8) ⟨5, v0, v1, v2, q0, q1, q2, q3, q4⟩ = some (zbz ⟨5, v0, v1, v2, q0, q1, q2, q3, q4⟩, 0, ()) := by kernel_rfl
theorem zAP (M : Nat) (v0 v1 v2 : Int) (q0 q1 q2 q3 q4 : Fr) : q197 (M + 8) ⟨6, v0, v1, v2, q0, q1, q2, q3, q4⟩ = some (zbz ⟨6, v0, v1, v2, q0, q1, q2, q3, q4⟩, 0, ()) := by kernel_rfl
theorem zAQ (M : Nat) (v0 v1 v2 : Int) (q0 q1 q2 q3 q4 : Fr) : q197 (M + 8) ⟨7, v0, v1, v2, q0, q1, q2, q3, q4⟩ = some (zbz ⟨7, v0, v1, v2, q0, q1, q2, q3, q4⟩, 0, ()) := by kernel_rfl
theorem zxM {N : Nat} (hN : 100 <= N) {s : Stp} (h : 1 <= s.kind /\ s.kind <= 7) : q197 N s = some (zbz s, 0, ()) := by
  obtain ⟨M, rfl⟩ : ∃ M, N = M + 8 := ⟨N - 8, by omega⟩
  obtain ⟨k, v0, v1, v2, q0, q1, q2, q3, q4⟩ := s
  simp only at h
  have hk : k = 1 \/ k = 2 \/ k = 3 \/ k = 4 \/ k = 5 \/ k = 6 \/ k = 7 := by omega
  rcases hk with rfl | rfl | rfl | rfl | rfl | rfl | rfl
  . exact zAK ..
  . exact zAL ..
  . exact zAM ..
  . exact zAN ..
  . exact zAO ..
  . exact zAP ..
  . exact zAQ ..
theorem zxN {N : Nat} (hN : 100 <= N) {V : Nat} {pb rw : List Row} {sm : List Pr} {s : Stp} (h : okS (V : Int) s) (h1 : pb.length < 8) (h2 : pb.length + rw.length + (zbz s).length <= 64) (h3 : sm.length < 200) (h4 : V < 200) :
    q115 N (V : Int) pb rw sm s = some (((cond (eqI s.kind 1) ((V + 1 : Nat) : Int) (V : Int), cond (eqI s.kind 7) (pb ++ zbz s) pb, cond (eqI s.kind 7) rw (rw ++ zbz s), cond (eqI s.kind 6) (sm ++ [⟨s.v0, s.v1⟩]) sm, ()), cond (eqI s.kind 1) (V : Int) 0, 0, ())) := by
  unfold q115
  rw [zxL hN h]
  simp only [bsm]
  rw [zaQ rfl, Bool.not_true, cond_false, zxM hN h.1]
  simp only [bsm]
  have e1 : wr ((pb.length : Int) + (rw.length : Int)) = ((pb.length + rw.length : Nat) : Int) := by rw [zeU (by omega) (by omega)]; omega
  have e2 : wr (((pb.length + rw.length : Nat) : Int) + ((zbz s).length : Int)) = ((pb.length + rw.length + (zbz s).length : Nat) : Int) := by rw [zeU (by omega) (by omega)]; omega
  have e3 : wr (((V + 1 : Nat) : Int) - 1) = (V : Int) := by rw [zeU (by omega) (by omega)]; omega
  rw [e1, e2, zab (by omega), cond_false, zaC (by omega), zaC (by omega), zaC (by omega), zax (by omega), e3]
  simp only [cond_false, Nat.zero_add, List.length_cons, List.length_nil]
  rw [zaG (by omega), zaG (by omega), zaG (by omega), zaG (by omega), zaG (by omega), zaG (by omega)]
  simp only [mst2]
  obtain ⟨k, v0, v1, v2, q0, q1, q2, q3, q4⟩ := s
  obtain ⟨⟨k1, k2⟩, _⟩ := h
  simp only at k1 k2
  have hk : k = 1 \/ k = 2 \/ k = 3 \/ k = 4 \/ k = 5 \/ k = 6 \/ k = 7 := by omega
  rcases hk with rfl | rfl | rfl | rfl | rfl | rfl | rfl
  . show _ = some ((((V + 1 : Nat) : Int), pb, rw ++ [], sm, ()), (V : Int), 0, ())
    rw [List.append_nil]
    rfl
  . rfl
  . rfl
  . rfl
  . rfl
  . show _ = some (((V : Int), pb, rw ++ ([] : List Row), sm ++ [Pr.mk v0 v1], ()), (0 : Int), (0 : Int), ())
    rw [List.append_nil]
    rfl
  . rfl
theorem zjt {N : Nat} (hN : 100 <= N) {V : Nat} {pb rw : List Row} {sm : List Pr} {pv vs : List Fr} {st : List Stp} {s : Stp} (h : okS (V : Int) s) (h1 : pb.length < 8) (h2 : pb.length + rw.length + (zbz s).length <= 64) (h3 : sm.length < 200) (h4 : V < 200)
    (h5 : st.length < 1000) (h6 : vs.length < 1000) (c : Fr) :
    q187 N 0 0 [] [] pv vs st (V : Int) pb rw sm s c = some ((0, 0, [], [], pv, cond (eqI s.kind 1) (vs ++ [c]) vs, st ++ [s], ()), (cond (eqI s.kind 1) ((V + 1 : Nat) : Int) (V : Int), cond (eqI s.kind 7) (pb ++ zbz s) pb, cond (eqI s.kind 7) rw (rw ++ zbz s), cond (eqI s.kind 6) (sm ++ [⟨s.v0, s.v1⟩]) sm, ()), cond (eqI s.kind 1) (V : Int) 0, ()) := by
  unfold q187
  rw [zxN hN h h1 h2 h3 h4]
  simp only [bsm]
  rw [zaQ rfl, Bool.not_true, cond_false]
  simp only [List.length_cons, List.length_nil]
  rw [zaG (by omega), zaG (by omega)]
  simp only [mst2]
  cases eqI s.kind 1 <;> rfl
def svar : Stp := ⟨1, 0, 0, 0, .zero, .zero, .zero, .zero, .zero⟩
theorem zg8 (V : Int) : okS V svar := ⟨⟨by decide, by decide⟩, ⟨zay, zay, zay, zay, zay⟩, fun h => absurd h (by decide), fun h => absurd h (by decide), fun h => absurd h (by decide)⟩
theorem zmi {N : Nat} (hN : 100 <= N) {pb rw : List Row} {sm : List Pr} {pv vs : List Fr} {st : List Stp} (h1 : pb.length < 8) (h2 : pb.length + rw.length <= 64) (h3 : sm.length < 200) (h4 : vs.length < 200)
    (h5 : st.length < 1000) (c : Fr) :
    q185 N 0 0 [] [] pv vs st (vs.length : Int) pb rw sm c = some ((0, 0, [], [], pv, vs ++ [c], st ++ [svar], ()), (((vs.length + 1 : Nat) : Int), pb, rw, sm, ()), (vs.length : Int), ()) := by
  unfold q185
  rw [show Stp.mk 1 0 0 0 Fr.zero Fr.zero Fr.zero Fr.zero Fr.zero = svar from rfl, zjt hN (zg8 _) h1 (by rw [show (zbz svar).length = 0 from rfl]; omega) h3 h4 h5 (by omega) c]
  simp only [bsm]
  show some ((0, 0, [], [], pv, vs ++ [c], st ++ [svar], ()), (((vs.length + 1 : Nat) : Int), pb, rw ++ [], sm, ()), (vs.length : Int), ()) = _
  rw [List.append_nil]
end
section
structure PlS where
  n : Nat
  pv : List Fr
  vs : List Fr
  st : List Stp
  pb : List Row
  rw : List Row
  sm : List Pr
def zdD (n : Nat) : Fr := ⟨u64I (n : Int), 0, 0, 0⟩
def five : Fr := ⟨5, 0, 0, 0⟩
def fneg (a : Fr) : Fr := frN ((RR - fv a) % RR)
def PlS.val (s : PlS) (x : Nat) : Fr := s.vs.getD x Fr.zero
def PlS.two (s : PlS) (n : Nat) (c : Fr) (t : Stp) : PlS := ⟨n, s.pv, s.vs ++ [c], s.st ++ [svar] ++ [t], s.pb, s.rw ++ zbz t, cond (eqI t.kind 6) (s.sm ++ [⟨t.v0, t.v1⟩]) s.sm⟩
def tMul (x y z : Nat) (k : Fr) : Stp := ⟨2, x, y, z, one1, k, .zero, fneg one1, five⟩
def zuo (z : Nat) : Stp := ⟨3, z, 0, 0, .zero, .zero, .zero, .zero, .zero⟩
def tPow (x z : Nat) : Stp := ⟨4, x, 0, z, .zero, .zero, .zero, .zero, .zero⟩
def zup (x y z : Nat) : Stp := ⟨5, x, y, z, .zero, .zero, .zero, .zero, .zero⟩
def zuq (z x : Nat) : Stp := ⟨6, z, x, 0, .zero, .zero, .zero, .zero, .zero⟩
def tPub (x : Nat) : Stp := ⟨7, x, 0, 0, .zero, .zero, .zero, .zero, .zero⟩
def tNo (x : Nat) : Stp := ⟨2, x, -5, x, .zero, one1, .zero, fneg one1, .zero⟩
inductive Gate : PlS -> PlS -> Prop
  | mul {s : PlS} (n x y k : Nat) (hx : x < s.vs.length) (hy : y < s.vs.length) (hk : k < 9) :
      Gate s (s.two n (fadd (fadd (fmul (s.val x) (s.val y)) (fmul (zdD k) (s.val x))) five) (tMul x y s.vs.length (zdD k)))
  | bool {s : PlS} (n k : Nat) (hk : k < 2) : Gate s (s.two n (zdD k) (zuo s.vs.length))
  | pow {s : PlS} (n x : Nat) (hx : x < s.vs.length) : Gate s (s.two n (frN (fv (s.val x) ^ 5 % RR)) (tPow x s.vs.length))
  | next {s : PlS} (n x y : Nat) (hx : x < s.vs.length) (hy : y < s.vs.length) : Gate s (s.two n (fadd (s.val x) (s.val y)) (zup x y s.vs.length))
  | same {s : PlS} (n x : Nat) (hx : x < s.vs.length) : Gate s (s.two n (s.val x) (zuq s.vs.length x))
  | pub {s : PlS} (n x : Nat) (hx : x < s.vs.length) (hp : s.pv.length < 3) : Gate s ⟨n, s.pv ++ [s.val x], s.vs, s.st ++ [tPub x], s.pb ++ [zca x], s.rw, s.sm⟩
  | skip {s : PlS} (n : Nat) : Gate s ⟨n, s.pv, s.vs, s.st, s.pb, s.rw, s.sm⟩
  | no {s : PlS} (n x : Nat) (hx : x < s.vs.length) : Gate s ⟨n, s.pv, s.vs, s.st ++ [tNo x], s.pb, s.rw ++ zbz (tNo x), s.sm⟩
structure PlI (g : Nat) (s : PlS) : Prop where
  v2 : 2 <= s.vs.length
  v : s.vs.length <= 2 + g
  p : s.pv.length <= 3
  pp : s.pb.length = s.pv.length
  r : s.rw.length <= 2 * g
  m : s.sm.length <= g
  st : s.st.length <= 2 + 2 * g
  sc : ∀ x ∈ s.vs, Sc x
theorem PlI.val {g : Nat} {s : PlS} (h : PlI g s) (x : Nat) : Sc (s.val x) := by
  unfold PlS.val
  rcases Nat.lt_or_ge x s.vs.length with h1 | h1
  . rw [List.getD_eq_getElem?_getD, List.getElem?_eq_getElem h1]
    exact h.sc _ (List.getElem_mem h1)
  . rw [List.getD_eq_getElem?_getD, List.getElem?_eq_none h1]
    exact zay
theorem zr9 {k : Nat} (h : k < 1000) : fv (zdD k) = k := by
  have e : (u64I (k : Int)).toNat = k := zt0 (by omega)
  exact (zjl _).trans e
theorem zsa : 1000 < RR := by decide +kernel
theorem zc3 {k : Nat} (h : k < 1000) : Sc (zdD k) := by
  unfold Sc
  rw [zr9 h]
  have := zsa
  omega
theorem zsb : Sc five := by unfold Sc five; decide +kernel
theorem zg9 : Sc one1 := by unfold Sc one1; decide +kernel
theorem zsc (a : Fr) : Sc (fneg a) := by unfold Sc fneg; rw [zda]; exact Nat.mod_lt _ (by have := zsa; omega)
theorem zix (n : Nat) : Sc (frN (n % RR)) := by unfold Sc; rw [zda]; exact Nat.mod_lt _ (by have := zsa; omega)
theorem zci (a b : Fr) : Sc (fadd a b) := zix _
theorem zju (a b : Fr) : Sc (fmul a b) := zix _
theorem zsd {V : Int} {x y z : Nat} {k : Fr} (hx : (x : Int) < V) (hy : (y : Int) < V) (hz : (z : Int) < V) (hk : Sc k) : okS V (tMul x y z k) :=
  ⟨⟨by show (1 : Int) <= 2; decide, by show (2 : Int) <= 7; decide⟩, ⟨zg9, hk, zay, zsc _, zsb⟩, fun _ => ⟨hx, .inr rfl⟩, fun _ => ⟨hy, .inr rfl⟩, fun _ => ⟨hz, .inr rfl⟩⟩
theorem zmj {V : Int} {z : Nat} (hz : (z : Int) < V) : okS V (zuo z) :=
  ⟨⟨by show (1 : Int) <= 3; decide, by show (3 : Int) <= 7; decide⟩, ⟨zay, zay, zay, zay, zay⟩, fun _ => ⟨hz, .inl (show (0 : Int) <= (z : Int) by omega)⟩, fun h => absurd h (by show ¬ ((3 : Int) = 2 \/ (3 : Int) = 5 \/ (3 : Int) = 6); decide), fun h => absurd h (by show ¬ ((3 : Int) = 2 \/ (3 : Int) = 4 \/ (3 : Int) = 5); decide)⟩
theorem zse {V : Int} {x z : Nat} (hx : (x : Int) < V) (hz : (z : Int) < V) : okS V (tPow x z) :=
  ⟨⟨by show (1 : Int) <= 4; decide, by show (4 : Int) <= 7; decide⟩, ⟨zay, zay, zay, zay, zay⟩, fun _ => ⟨hx, .inl (show (0 : Int) <= (x : Int) by omega)⟩, fun h => absurd h (by show ¬ ((4 : Int) = 2 \/ (4 : Int) = 5 \/ (4 : Int) = 6); decide), fun _ => ⟨hz, .inl (show (0 : Int) <= (z : Int) by omega)⟩⟩
theorem zmk {V : Int} {x y z : Nat} (hx : (x : Int) < V) (hy : (y : Int) < V) (hz : (z : Int) < V) : okS V (zup x y z) :=
  ⟨⟨by show (1 : Int) <= 5; decide, by show (5 : Int) <= 7; decide⟩, ⟨zay, zay, zay, zay, zay⟩, fun _ => ⟨hx, .inl (show (0 : Int) <= (x : Int) by omega)⟩, fun _ => ⟨hy, .inl (show (0 : Int) <= (y : Int) by omega)⟩, fun _ => ⟨hz, .inl (show (0 : Int) <= (z : Int) by omega)⟩⟩
theorem zml {V : Int} {x z : Nat} (hx : (x : Int) < V) (hz : (z : Int) < V) : okS V (zuq z x) :=
  ⟨⟨by show (1 : Int) <= 6; decide, by show (6 : Int) <= 7; decide⟩, ⟨zay, zay, zay, zay, zay⟩, fun _ => ⟨hz, .inl (show (0 : Int) <= (z : Int) by omega)⟩, fun _ => ⟨hx, .inl (show (0 : Int) <= (x : Int) by omega)⟩, fun h => absurd h (by show ¬ ((6 : Int) = 2 \/ (6 : Int) = 4 \/ (6 : Int) = 5); decide)⟩
theorem zsf {V : Int} {x : Nat} (hx : (x : Int) < V) : okS V (tPub x) :=
  ⟨⟨by show (1 : Int) <= 7; decide, by show (7 : Int) <= 7; decide⟩, ⟨zay, zay, zay, zay, zay⟩, fun _ => ⟨hx, .inl (show (0 : Int) <= (x : Int) by omega)⟩, fun h => absurd h (by show ¬ ((7 : Int) = 2 \/ (7 : Int) = 5 \/ (7 : Int) = 6); decide), fun h => absurd h (by show ¬ ((7 : Int) = 2 \/ (7 : Int) = 4 \/ (7 : Int) = 5); decide)⟩
theorem zxO {V : Int} {x : Nat} (hx : (x : Int) < V) : okS V (tNo x) :=
  ⟨⟨by show (1 : Int) <= 2; decide, by show (2 : Int) <= 7; decide⟩, ⟨zay, zg9, zay, zsc _, zay⟩, fun _ => ⟨hx, .inr rfl⟩, fun _ => ⟨show (-5 : Int) < V by omega, .inr rfl⟩, fun _ => ⟨hx, .inr rfl⟩⟩
theorem PlI.two {g : Nat} {s : PlS} (h : PlI g s) (n : Nat) {c : Fr} (hc : Sc c) (t : Stp) (ht : (zbz t).length <= 2) : PlI (g + 1) (s.two n c t) := by
  refine ⟨?_, ?_, h.p, h.pp, ?_, ?_, ?_, ?_⟩
  . have := h.v2; simp [PlS.two]; omega
  . have := h.v; simp [PlS.two]; omega
  . have := h.r; simp [PlS.two]; omega
  . have := h.m
    unfold PlS.two
    cases eqI t.kind 6 <;> simp <;> omega
  . have := h.st; simp [PlS.two]; omega
  . intro x hx
    simp only [PlS.two, List.mem_append, List.mem_singleton] at hx
    rcases hx with hx | rfl
    . exact h.sc x hx
    . exact hc
theorem Gate.inv {g : Nat} {s s' : PlS} (hg : Gate s s') (h : PlI g s) : PlI (g + 1) s' := by
  cases hg with
  | mul n x y k hx hy hk => exact h.two n (zci _ _) _ (show 1 <= 2 by omega)
  | bool n k hk => exact h.two n (zc3 (by omega)) _ (show 1 <= 2 by omega)
  | pow n x hx => exact h.two n (zix _) _ (show 1 <= 2 by omega)
  | next n x y hx hy => exact h.two n (zci _ _) _ (show 2 <= 2 by omega)
  | same n x hx => exact h.two n (h.val x) _ (show 0 <= 2 by omega)
  | pub n x hx hp =>
    have := h.v2; have := h.v; have := h.pp; have := h.r; have := h.m; have := h.st
    refine ⟨by simpa using h.v2, by simp only; omega, by simp; omega, by simp; omega, by simp only; omega, by simp only; omega, by simp; omega, h.sc⟩
  | skip n =>
    have := h.v2; have := h.v; have := h.pp; have := h.r; have := h.m; have := h.st
    exact ⟨by simpa using h.v2, by simp only; omega, h.p, h.pp, by simp only; omega, by simp only; omega, by simp only; omega, h.sc⟩
  | no n x hx =>
    have := h.v2; have := h.v; have := h.pp; have := h.r; have := h.m; have := h.st
    refine ⟨by simpa using h.v2, by simp only; omega, h.p, h.pp, ?_, by simp only; omega, by simp; omega, h.sc⟩
    simp only [List.length_append, show (zbz (tNo x)).length = 1 from rfl]; omega
abbrev Lp95 := (List UInt8) -> Int -> Int -> Int -> Int -> Int -> Int -> Int -> Int -> Fr -> (List Row) -> (List Pr) -> (List Fr) -> (List Fr) -> (List Stp) -> (List Row) -> (List Pr) -> (List Fr) -> (List Fr) -> (List Stp) -> (List Row) -> (List Row) -> (List Pr) -> Option ((Int × Int × List Row × List Pr × List Fr × List Fr × List Stp × Unit) × Unit)
def Lp95.at (A : Lp95) (l : List UInt8) (most g : Int) (s : PlS) : Option ((Int × Int × List Row × List Pr × List Fr × List Fr × List Stp × Unit) × Unit) :=
  A l most g 0 0 0 0 (s.n : Int) (s.vs.length : Int) one1 [] [] [] [] [] [] [] s.pv s.vs s.st s.pb s.rw s.sm
theorem zkB {N g : Nat} (hN : 100 <= N) (hg : g <= 20) {s : PlS} (h : PlI g s) (n : Nat) {c d : Fr} (hc : Sc c) {t : Stp} (ht : okS ((s.vs.length + 1 : Nat) : Int) t) (h2 : (zbz t).length <= 2) (h7 : eqI t.kind 7 = false) (h1 : eqI t.kind 1 = false) :
    q187 N 0 0 [] [] s.pv (s.vs ++ [c]) (s.st ++ [svar]) (((s.vs.length + 1 : Nat)) : Int) s.pb s.rw s.sm t d =
      some ((0, 0, [], [], (s.two n c t).pv, (s.two n c t).vs, (s.two n c t).st, ()), (((s.two n c t).vs.length : Int), (s.two n c t).pb, (s.two n c t).rw, (s.two n c t).sm, ()), 0, ()) := by
  have := h.v2; have := h.v; have := h.pp; have := h.p; have := h.r; have := h.m; have := h.st
  rw [zjt hN ht (by omega) (by omega) (by omega) (by omega) (by simp; omega) (by simp; omega)]
  rw [h7, h1]
  simp only [cond_false, PlS.two, List.length_append, List.length_cons, List.length_nil]
section
variable {N g : Nat} (hN : 2000 <= N) (hg : g <= 14) {s : PlS} (h : PlI g s) (hn : s.n <= 2 + 4 * g) (l : List UInt8) (most : Int) (A : Lp95)
include hN hg h
theorem zur (c : Fr) : q185 N 0 0 [] [] s.pv s.vs s.st (s.vs.length : Int) s.pb s.rw s.sm c = some ((0, 0, [], [], s.pv, s.vs ++ [c], s.st ++ [svar], ()), (((s.vs.length + 1 : Nat) : Int), s.pb, s.rw, s.sm, ()), (s.vs.length : Int), ()) := by
  have := h.v2; have := h.v; have := h.pp; have := h.p; have := h.r; have := h.m; have := h.st
  exact zmi (by omega) (by omega) (by omega) (by omega) (by omega) (by omega) c
include hn
theorem zus (hlt : (g : Int) < most) (hl : s.n < l.length) : ∃ s', Gate s s' /\ s'.n <= s.n + 4 /\ zkv N A l most (g : Int) 0 0 0 0 (s.n : Int) (s.vs.length : Int) one1 [] [] [] [] [] [] [] s.pv s.vs s.st s.pb s.rw s.sm = Lp95.at A l most ((g + 1 : Nat) : Int) s' := by
  have hv2 := h.v2; have hv := h.v; have hpp := h.pp; have hp3 := h.p; have hr := h.r; have hm := h.m; have hst := h.st
  generalize hx : numX l s.n s.vs.length = x
  have hxl : x < s.vs.length := by rw [← hx]; exact zd5 _ _ (by omega)
  generalize hn1 : numN l s.n = n1
  have hn1' : n1 <= s.n + 1 := by rw [← hn1]; exact zd6 _ _
  generalize hy : numX l n1 s.vs.length = y
  have hyl : y < s.vs.length := by rw [← hy]; exact zd5 _ _ (by omega)
  generalize hn2 : numN l n1 = n2
  have hn2' : n2 <= n1 + 1 := by rw [← hn2]; exact zd6 _ _
  generalize hk : numX l n2 7 = k
  have hk7 : k < 7 := by rw [← hk]; exact zd5 _ _ (by omega)
  generalize hn3 : numN l n2 = n3
  have hn3' : n3 <= n2 + 1 := by rw [← hn3]; exact zd6 _ _
  have e1 : q186 N (s.n : Int) l (s.vs.length : Int) = some (((n1 : Int), ()), (x : Int), ()) := by rw [zd7 (by omega) (by omega), hx, hn1]
  have e2 : q186 N (n1 : Int) l (s.vs.length : Int) = some (((n2 : Int), ()), (y : Int), ()) := by rw [zd7 (by omega) (by omega), hy, hn2]
  have e3 : q186 N (n2 : Int) l 7 = some (((n3 : Int), ()), (k : Int), ()) := by rw [show (7 : Int) = ((7 : Nat) : Int) from rfl, zd7 (by omega) (by omega), hk, hn3]
  have e9 : q186 N (n3 : Int) l 9 = some ((((numN l n3 : Nat) : Int), ()), ((numX l n3 9 : Nat) : Int), ()) := by rw [show (9 : Int) = ((9 : Nat) : Int) from rfl, zd7 (by omega) (by omega)]
  have e22 : q186 N (n3 : Int) l 2 = some ((((numN l n3 : Nat) : Int), ()), ((numX l n3 2 : Nat) : Int), ()) := by rw [show (2 : Int) = ((2 : Nat) : Int) from rfl, zd7 (by omega) (by omega)]
  have hvx : List.getD s.vs x Fr.zero = s.val x := rfl
  have hvy : List.getD s.vs y Fr.zero = s.val y := rfl
  have hf := fun c => zur hN hg h c
  unfold zkv
  rw [zad hlt, cond_true, zad (by omega), cond_true, e1]
  simp only [bsm]
  rw [e2]
  simp only [bsm]
  rw [zaK (by omega : (0 : Int) <= (x : Int)), zad (by omega : (x : Int) < (s.vs.length : Int)), zaK (by omega : (0 : Int) <= (y : Int)), zad (by omega : (y : Int) < (s.vs.length : Int))]
  simp only [Bool.and_self, mst2, zaf, Int.toNat_natCast]
  rw [e3]
  simp only [bsm, hvx, hvy]
  have hks : k = 0 \/ k = 1 \/ k = 2 \/ k = 3 \/ k = 4 \/ k = 5 \/ k = 6 := by omega
  rcases hks with rfl | rfl | rfl | rfl | rfl | rfl | rfl
  . rw [show eqI ((0 : Nat) : Int) 0 = true from rfl, cond_true, e9]
    simp only [bsm, zjn]
    have hk9 : numX l n3 9 < 9 := zd5 _ _ (by omega)
    rw [mulR (by omega) (h.val y)]
    simp only [bsm]
    rw [show (Fr.mk (u64I ((numX l n3 9 : Nat) : Int)) 0 0 0) = zdD (numX l n3 9) from rfl, show (Fr.mk 5 0 0 0) = five from rfl, mulR (by omega) (h.val x)]
    simp only [bsm]
    rw [addR (by omega) (zju _ _) (zju _ _)]
    simp only [bsm]
    rw [addR (by omega) (zci _ _) zsb]
    simp only [bsm]
    rw [hf]
    simp only [bsm]
    rw [zvq (by omega) zg9]
    simp only [bsm]
    rw [show Stp.mk (2 : Int) (x : Int) (y : Int) (s.vs.length : Int) one1 (zdD (numX l n3 9)) .zero (frN ((RR - fv one1) % RR)) five = tMul x y s.vs.length (zdD (numX l n3 9)) from rfl,
      zkB (by omega) (by omega) h (numN l n3) (zci _ _) (t := tMul x y s.vs.length (zdD (numX l n3 9))) (zsd (by omega) (by omega) (by omega) (zc3 (by omega))) (show 1 <= 2 by omega) rfl rfl]
    simp only [bsm]
    rw [zax (by omega)]
    exact ⟨_, .mul (numN l n3) x y _ hxl hyl hk9, by have := zd6 l n3; simp only [PlS.two]; omega, rfl⟩
  . rw [show eqI ((1 : Nat) : Int) 0 = false from rfl, cond_false, show eqI ((1 : Nat) : Int) 1 = true from rfl, cond_true, e22]
    simp only [bsm, zjn]
    have hk2 : numX l n3 2 < 2 := zd5 _ _ (by omega)
    rw [show (Fr.mk (u64I ((numX l n3 2 : Nat) : Int)) 0 0 0) = zdD (numX l n3 2) from rfl, hf]
    simp only [bsm]
    rw [show Stp.mk (3 : Int) (s.vs.length : Int) 0 0 .zero .zero .zero .zero .zero = zuo s.vs.length from rfl,
      zkB (by omega) (by omega) h (numN l n3) (zc3 (by omega)) (t := zuo s.vs.length) (zmj (by omega)) (show 1 <= 2 by omega) rfl rfl]
    simp only [bsm]
    rw [zax (by omega)]
    exact ⟨_, .bool (numN l n3) _ hk2, by have := zd6 l n3; simp only [PlS.two]; omega, rfl⟩
  . rw [show eqI ((2 : Nat) : Int) 0 = false from rfl, cond_false, show eqI ((2 : Nat) : Int) 1 = false from rfl, cond_false, show eqI ((2 : Nat) : Int) 2 = true from rfl, cond_true]
    rw [zvs (h.val x) (by simp; omega) (by simp)]
    simp only [bsm]
    rw [show lv [(5 : UInt64)] = 5 from rfl, hf]
    simp only [bsm]
    rw [show Stp.mk (4 : Int) (x : Int) 0 (s.vs.length : Int) .zero .zero .zero .zero .zero = tPow x s.vs.length from rfl,
      zkB (by omega) (by omega) h n3 (zix _) (t := tPow x s.vs.length) (zse (by omega) (by omega)) (show 1 <= 2 by omega) rfl rfl]
    simp only [bsm]
    rw [zax (by omega)]
    exact ⟨_, .pow n3 x hxl, by simp only [PlS.two]; omega, rfl⟩
  . rw [show eqI ((3 : Nat) : Int) 0 = false from rfl, cond_false, show eqI ((3 : Nat) : Int) 1 = false from rfl, cond_false, show eqI ((3 : Nat) : Int) 2 = false from rfl, cond_false, show eqI ((3 : Nat) : Int) 3 = true from rfl, cond_true]
    rw [addR (by omega) (h.val x) (h.val y)]
    simp only [bsm]
    rw [hf]
    simp only [bsm]
    rw [show Stp.mk (5 : Int) (x : Int) (y : Int) (s.vs.length : Int) .zero .zero .zero .zero .zero = zup x y s.vs.length from rfl,
      zkB (by omega) (by omega) h n3 (zci _ _) (t := zup x y s.vs.length) (zmk (by omega) (by omega) (by omega)) (show 2 <= 2 by omega) rfl rfl]
    simp only [bsm]
    rw [zax (by omega)]
    exact ⟨_, .next n3 x y hxl hyl, by simp only [PlS.two]; omega, rfl⟩
  . rw [show eqI ((4 : Nat) : Int) 0 = false from rfl, cond_false, show eqI ((4 : Nat) : Int) 1 = false from rfl, cond_false, show eqI ((4 : Nat) : Int) 2 = false from rfl, cond_false, show eqI ((4 : Nat) : Int) 3 = false from rfl, cond_false, show eqI ((4 : Nat) : Int) 4 = true from rfl, cond_true]
    rw [hf]
    simp only [bsm]
    rw [show Stp.mk (6 : Int) (s.vs.length : Int) (x : Int) 0 .zero .zero .zero .zero .zero = zuq s.vs.length x from rfl,
      zkB (by omega) (by omega) h n3 (h.val x) (t := zuq s.vs.length x) (zml (by omega) (by omega)) (show 0 <= 2 by omega) rfl rfl]
    simp only [bsm]
    rw [zax (by omega)]
    exact ⟨_, .same n3 x hxl, by simp only [PlS.two]; omega, rfl⟩
  . rw [show eqI ((5 : Nat) : Int) 0 = false from rfl, cond_false, show eqI ((5 : Nat) : Int) 1 = false from rfl, cond_false, show eqI ((5 : Nat) : Int) 2 = false from rfl, cond_false, show eqI ((5 : Nat) : Int) 3 = false from rfl, cond_false, show eqI ((5 : Nat) : Int) 4 = false from rfl, cond_false, show eqI ((5 : Nat) : Int) 5 = true from rfl, cond_true]
    rw [zax (by omega)]
    by_cases hp : s.pv.length < 3
    . rw [zad (by omega), cond_true]
      rw [show Stp.mk (7 : Int) (x : Int) 0 0 .zero .zero .zero .zero .zero = tPub x from rfl,
        zjt (s := tPub x) (by omega) (zsf (by omega)) (by omega) (by rw [show (zbz (tPub x)).length = 1 from rfl]; omega) (by omega) (by omega) (by omega) (by omega)]
      simp only [bsm]
      rw [zaG (by simp; omega), mst2]
      exact ⟨_, .pub n3 x hxl hp, by simp only; omega, rfl⟩
    . rw [zab (by omega), cond_false]
      exact ⟨_, .skip n3, by simp only; omega, rfl⟩
  . rw [show eqI ((6 : Nat) : Int) 0 = false from rfl, cond_false, show eqI ((6 : Nat) : Int) 1 = false from rfl, cond_false, show eqI ((6 : Nat) : Int) 2 = false from rfl, cond_false, show eqI ((6 : Nat) : Int) 3 = false from rfl, cond_false, show eqI ((6 : Nat) : Int) 4 = false from rfl, cond_false, show eqI ((6 : Nat) : Int) 5 = false from rfl, cond_false]
    rw [zvq (by omega) zg9]
    simp only [bsm]
    rw [show Stp.mk (2 : Int) (x : Int) (-5) (x : Int) .zero one1 .zero (frN ((RR - fv one1) % RR)) .zero = tNo x from rfl,
      zjt (s := tNo x) (by omega) (zxO (by omega)) (by omega) (by rw [show (zbz (tNo x)).length = 1 from rfl]; omega) (by omega) (by omega) (by omega) (by omega)]
    simp only [bsm]
    rw [zax (by omega)]
    exact ⟨_, .no n3 x hxl, by simp only; omega, rfl⟩
end
end
section
inductive Plays : PlS -> PlS -> Prop
  | refl (s : PlS) : Plays s s
  | step {s t u : PlS} : Gate s t -> Plays t u -> Plays s u
def PlS.res (s : PlS) : (Int × Int × List Row × List Pr × List Fr × List Fr × List Stp × Unit) := ((s.pb.length : Int), (s.vs.length : Int), s.pb ++ s.rw, s.sm, s.pv, s.vs, s.st, ())
theorem zvC {N g : Nat} (hg : g <= 14) {s : PlS} (h : PlI g s) {R : Type} (f : (((Int × List Row × List Row × Unit) × Nat) × (Int × Int × List Row × List Pr × Unit) × Unit) -> Option R) :
    Option.bind (q118 N (s.vs.length : Int) s.pb s.rw s.sm) f = f ((((s.vs.length : Int), s.pb, s.rw, ()), s.sm.length), ((s.pb.length : Int), (s.vs.length : Int), s.pb ++ s.rw, s.sm, ()), ()) := by
  have hpp := h.pp; have hp3 := h.p; have hr := h.r
  unfold q118
  rw [zaG (by omega), zaG (by omega), mst2, mst2, bsm]
theorem zsg {N most : Nat} (hN : 2000 <= N) (hmo : most <= 14) (l : List UInt8) : ∀ (k g f : Nat) (s : PlS), PlI g s -> s.n <= 2 + 4 * g -> g + k = most -> k < f ->
    ∃ s' g', g' <= most /\ Plays s s' /\ PlI g' s' /\ zmg N f l (most : Int) (g : Int) 0 0 0 0 (s.n : Int) (s.vs.length : Int) one1 [] [] [] [] [] [] [] s.pv s.vs s.st s.pb s.rw s.sm = some (s'.res, ())
  | 0, g, f + 1, s, h, hn, hk, hf => by
    refine ⟨s, g, by omega, .refl s, h, ?_⟩
    rw [ziu]
    unfold zkv
    rw [zab (by omega), cond_false, zvC (by omega) h]
    rfl
  | k + 1, g, f + 1, s, h, hn, hk, hf => by
    rw [ziu]
    by_cases hl : s.n < l.length
    . obtain ⟨t, hg, hn', e⟩ := zus hN (by omega) h hn l (most : Int) (zmg N f) (by omega) hl
      obtain ⟨s', g', q0, q1, q2, q3⟩ := zsg hN hmo l k (g + 1) f t (hg.inv h) (by omega) (by omega) (by omega)
      exact ⟨s', g', q0, .step hg q1, q2, e.trans q3⟩
    . refine ⟨s, g, by omega, .refl s, h, ?_⟩
      unfold zkv
      rw [zad (by omega), cond_true, zab (by omega), cond_false, zvC (by omega) h]
      rfl
def ze8 (n a b : Nat) : PlS := ⟨n, [], [zdD a, zdD b], [svar, svar], [], [], []⟩
theorem zeC {n a b : Nat} (ha : a < 200) (hb : b < 2) : PlI 0 (ze8 n a b) :=
  ⟨Nat.le_refl 2, Nat.le_refl 2, Nat.zero_le _, rfl, Nat.le_refl 0, Nat.le_refl 0, Nat.le_refl 2, fun x hx => by
    simp only [ze8, List.mem_cons, List.not_mem_nil, or_false] at hx
    rcases hx with rfl | rfl
    . exact zc3 (by omega)
    . exact zc3 (by omega)⟩
theorem zAR {N most : Nat} (hN : 2000 <= N) (hmo : most <= 14) (l : List UInt8) :
    ∃ n a b s g, a < 200 /\ b < 2 /\ g <= most /\ Plays (ze8 n a b) s /\ PlI g s /\ q95 N l (most : Int) = some (s.res, ()) := by
  have e1 : q186 N 0 l 200 = some ((((numN l 0 : Nat) : Int), ()), ((numX l 0 200 : Nat) : Int), ()) := zd7 (n := 0) (m := 200) (by omega) (by omega)
  have hn1 := zd6 l 0
  have e2 : q186 N ((numN l 0 : Nat) : Int) l 2 = some ((((numN l (numN l 0) : Nat) : Int), ()), ((numX l (numN l 0) 2 : Nat) : Int), ()) := zd7 (m := 2) (by omega) (by omega)
  have hn2 := zd6 l (numN l 0)
  have ha : numX l 0 200 < 200 := zd5 _ _ (by omega)
  have hb : numX l (numN l 0) 2 < 2 := zd5 _ _ (by omega)
  have f1 := fun c => zmi (N := N) (by omega) (pb := []) (rw := []) (sm := []) (pv := []) (vs := []) (st := []) (by simp) (by simp) (by simp) (by simp) (by simp) c
  have f2 := fun c d => zmi (N := N) (by omega) (pb := []) (rw := []) (sm := []) (pv := []) (vs := [c]) (st := [svar]) (by simp) (by simp) (by simp) (by simp) (by simp) d
  obtain ⟨s, g, q0, q1, q2, q3⟩ := zsg hN hmo l most 0 N (ze8 (numN l (numN l 0)) (numX l 0 200) (numX l (numN l 0) 2)) (zeC ha hb) (by simp only [ze8]; omega) (by omega) (by omega)
  refine ⟨_, _, _, s, g, ha, hb, q0, q1, q2, ?_⟩
  unfold q95
  simp only [zjn, bsm]
  rw [e1]
  simp only [bsm]
  rw [show q185 N 0 0 [] [] [] [] [] 0 [] [] [] (Fr.mk (u64I ((numX l 0 200 : Nat) : Int)) 0 0 0) = _ from f1 (zdD (numX l 0 200))]
  simp only [bsm]
  rw [e2]
  simp only [bsm]
  rw [show q185 N 0 0 [] [] [] ([] ++ [zdD (numX l 0 200)]) ([] ++ [svar]) (((([] : List Fr).length + 1 : Nat)) : Int) [] [] [] (Fr.mk (u64I ((numX l (numN l 0) 2 : Nat) : Int)) 0 0 0) = _ from f2 (zdD (numX l 0 200)) (zdD (numX l (numN l 0) 2))]
  simp only [bsm]
  exact q3
def zkC (V : Int) (r : Row) : Prop := bigR r = false /\ unkR V r = false /\ lowR r = false
theorem zkD {x : Fr} (h : Sc x) : bg x = false := by unfold bg; unfold Sc at h; rw [decide_eq_true h]; rfl
theorem zdA {V : Int} {r : Row} (h0 : Sc r.q0) (h1 : Sc r.q1) (h2 : Sc r.q2) (h3 : Sc r.q3) (h4 : Sc r.q4) (h5 : Sc r.q5) (h6 : Sc r.q6) (h7 : Sc r.q7) (w0 : -1 <= r.w0 /\ r.w0 < V) (w1 : -1 <= r.w1 /\ r.w1 < V) (w2 : -1 <= r.w2 /\ r.w2 < V) : zkC V r := by
  refine ⟨?_, ?_, ?_⟩
  . unfold bigR
    rw [zkD h0, zkD h1, zkD h2, zkD h3, zkD h4, zkD h5, zkD h6, zkD h7]
    rfl
  . unfold unkR
    rw [zaC (by omega), zaC (by omega), zaC (by omega)]
    rfl
  . unfold lowR
    rw [zab (by omega), zab (by omega), zab (by omega)]
    rfl
theorem zxP {V v : Int} (hV : 0 <= V) (h : v < V) : -1 <= mxI v (-1) /\ mxI v (-1) < V := by
  unfold mxI
  by_cases h1 : v < -1
  . rw [zad h1, cond_true]; omega
  . rw [zab h1, cond_false]; omega
theorem ze9 {V : Int} (hV : 0 <= V) {s : Stp} (h : okS V s) : ∀ r ∈ zbz s, zkC V r := by
  obtain ⟨k, v0, v1, v2, q0, q1, q2, q3, q4⟩ := s
  obtain ⟨⟨k1, k2⟩, ⟨a0, a1, a2, a3, a4⟩, b0, b1, b2⟩ := h
  simp only at k1 k2 b0 b1 b2 a0 a1 a2 a3 a4
  have hk : k = 1 \/ k = 2 \/ k = 3 \/ k = 4 \/ k = 5 \/ k = 6 \/ k = 7 := by omega
  have z := zay
  have o := zg9
  have m : -1 <= (-1 : Int) /\ (-1 : Int) < V := by omega
  intro r hr
  rcases hk with rfl | rfl | rfl | rfl | rfl | rfl | rfl
  . cases (show r ∈ ([] : List Row) from hr)
  . have hr : r ∈ [Row.mk q0 q1 q2 q3 q4 .zero .zero .zero (mxI v0 (-1)) (mxI v1 (-1)) (mxI v2 (-1))] := hr
    rw [List.mem_singleton] at hr; subst hr
    exact zdA a0 a1 a2 a3 a4 z z z (zxP hV (b0 (by omega)).1) (zxP hV (b1 (by omega)).1) (zxP hV (b2 (by omega)).1)
  . have hr : r ∈ [Row.mk .zero .zero .zero .zero .zero one1 .zero .zero v0 (-1) (-1)] := hr
    rw [List.mem_singleton] at hr; subst hr
    have := b0 (by omega)
    unfold okV at this
    exact zdA z z z z z o z z (by simp only; omega) m m
  . have hr : r ∈ [Row.mk .zero .zero .zero .zero .zero .zero one1 .zero v0 (-1) v2] := hr
    rw [List.mem_singleton] at hr; subst hr
    have h0 := b0 (by omega)
    have h2 := b2 (by omega)
    unfold okV at h0 h2
    exact zdA z z z z z z o z (by simp only; omega) m (by simp only; omega)
  . have hr : r ∈ [Row.mk .zero .zero .zero .zero .zero .zero .zero one1 v0 v1 (-1), Row.mk .zero .zero .zero .zero .zero .zero .zero .zero v2 (-1) (-1)] := hr
    have h0 := b0 (by omega)
    have h1 := b1 (by omega)
    have h2 := b2 (by omega)
    unfold okV at h0 h1 h2
    simp only [List.mem_cons, List.not_mem_nil, or_false] at hr
    rcases hr with rfl | rfl
    . exact zdA z z z z z z z o (by simp only; omega) (by simp only; omega) m
    . exact zdA z z z z z z z z (by simp only; omega) m m
  . cases (show r ∈ ([] : List Row) from hr)
  . have hr : r ∈ [Row.mk .zero ⟨1, 0, 0, 0⟩ .zero .zero .zero .zero .zero .zero v0 (-1) (-1)] := hr
    rw [List.mem_singleton] at hr; subst hr
    have := b0 (by omega)
    unfold okV at this
    exact zdA z o z z z z z z (by simp only; omega) m m
theorem zkC.mono {V W : Int} (h : V <= W) {r : Row} (hr : zkC V r) : zkC W r := by
  obtain ⟨a, b, c⟩ := hr
  refine ⟨a, ?_, c⟩
  unfold unkR at b ⊢
  simp only [Bool.or_eq_false_iff] at b
  obtain ⟨⟨b0, b1⟩, b2⟩ := b
  have := of_decide_eq_false b0
  have := of_decide_eq_false b1
  have := of_decide_eq_false b2
  rw [zaC (by omega), zaC (by omega), zaC (by omega)]
  rfl
structure GdI (s : PlS) : Prop where
  pb : ∀ r ∈ s.pb, ∃ x : Nat, x < s.vs.length /\ r = zca x
  rw : ∀ r ∈ s.rw, zkC (s.vs.length : Int) r
  sm : ∀ p ∈ s.sm, (0 <= p.x /\ p.x < (s.vs.length : Int)) /\ 0 <= p.y /\ p.y < (s.vs.length : Int)
theorem GdI.two {s : PlS} (h : GdI s) (n : Nat) (c : Fr) {t : Stp} (ht : okS ((s.vs.length + 1 : Nat) : Int) t) : GdI (s.two n c t) := by
  have hl : (s.two n c t).vs.length = s.vs.length + 1 := by simp [PlS.two]
  refine ⟨fun r hr => ?_, fun r hr => ?_, fun p hp => ?_⟩
  . obtain ⟨x, hx, e⟩ := h.pb r hr
    exact ⟨x, by omega, e⟩
  . rw [hl]
    simp only [PlS.two, List.mem_append] at hr
    rcases hr with hr | hr
    . exact (h.rw r hr).mono (by omega)
    . exact ze9 (by omega) ht r hr
  . rw [hl]
    have old : ∀ p ∈ s.sm, (0 <= p.x /\ p.x < ((s.vs.length + 1 : Nat) : Int)) /\ 0 <= p.y /\ p.y < ((s.vs.length + 1 : Nat) : Int) := fun p hp => by
      have := h.sm p hp
      omega
    simp only [PlS.two] at hp
    cases h6 : eqI t.kind 6 with
    | false => rw [h6] at hp; exact old p hp
    | true =>
      rw [h6] at hp
      simp only [cond_true, List.mem_append, List.mem_singleton] at hp
      rcases hp with hp | rfl
      . exact old p hp
      . have h6 : t.kind = 6 := of_decide_eq_true h6
        obtain ⟨_, _, b0, b1, _⟩ := ht
        have h0 := b0 (by omega)
        have h1 := b1 (by omega)
        unfold okV at h0 h1
        simp only
        omega
theorem Gate.good {g : Nat} {s s' : PlS} (hg : Gate s s') (hi : PlI g s) (h : GdI s) : GdI s' := by
  cases hg with
  | mul n x y k hx hy hk => exact h.two n _ (zsd (by omega) (by omega) (by omega) (zc3 (by omega)))
  | bool n k hk => exact h.two n _ (zmj (by omega))
  | pow n x hx => exact h.two n _ (zse (by omega) (by omega))
  | next n x y hx hy => exact h.two n _ (zmk (by omega) (by omega) (by omega))
  | same n x hx => exact h.two n _ (zml (by omega) (by omega))
  | pub n x hx hp =>
    refine ⟨fun r hr => ?_, h.rw, h.sm⟩
    simp only [List.mem_append, List.mem_singleton] at hr
    rcases hr with hr | rfl
    . exact h.pb r hr
    . exact ⟨x, hx, rfl⟩
  | skip n => exact ⟨h.pb, h.rw, h.sm⟩
  | no n x hx =>
    refine ⟨h.pb, fun r hr => ?_, h.sm⟩
    simp only [List.mem_append] at hr
    rcases hr with hr | hr
    . exact h.rw r hr
    . exact ze9 (V := (s.vs.length : Int)) (by omega) (zxO (by omega)) r hr
theorem Plays.keep {P : PlS -> Prop} (hP : ∀ g s s', PlI g s -> Gate s s' -> P s -> P s') : ∀ {s s' : PlS}, Plays s s' -> ∀ g, PlI g s -> P s -> P s' := by
  intro s s' h
  induction h with
  | refl s => exact fun _ _ h => h
  | step h1 _ ih => exact fun g hi h => ih (g + 1) (h1.inv hi) (hP g _ _ hi h1 h)
theorem zut {V : Int} {x : Nat} (h : (x : Int) < V) : zkC V (zca x) := ze9 (by omega) (zsf h) _ (List.mem_singleton.2 rfl)
theorem zoj (r : Row) : zaU r r = true := by
  unfold zaU
  simp [eqI]
theorem zok {x : Nat} : zfz (zca x) = false := by
  unfold zfz
  rw [show (zca (x : Int)).w0 = (x : Int) from rfl, zab (by omega), zoj]
  rfl
theorem znl {P : Int} : ∀ (l : List Row) (i : Nat), (∀ r ∈ l, lowR r = false) -> (∀ (j : Nat) (r : Row), l[j]? = some r -> ((i + j : Nat) : Int) < P -> zfz r = false) -> zdC P i l = false
  | [], _, _, _ => rfl
  | r :: l, i, h1, h2 => by
    unfold zdC
    rw [h1 r List.mem_cons_self, znl l (i + 1) (fun r hr => h1 r (List.mem_cons_of_mem _ hr)) fun j x hx hj => h2 (j + 1) x (by simpa using hx) (by omega)]
    by_cases hi : (i : Int) < P
    . rw [h2 0 r rfl (by simpa using hi)]
      cases ltI (i : Int) P <;> rfl
    . rw [zab hi]; rfl
theorem zuu {g : Nat} {s : PlS} (hi : PlI g s) (hg : g <= 14) (h : GdI s) : GoodCirc (s.pb.length : Int) (s.vs.length : Int) (s.pb ++ s.rw) s.sm := by
  have hv2 := hi.v2; have hv := hi.v; have hpp := hi.pp; have hp3 := hi.p; have hr := hi.r; have hm := hi.m
  have hall : ∀ r ∈ s.pb ++ s.rw, zkC (s.vs.length : Int) r := fun r hr => by
    rcases List.mem_append.1 hr with hr | hr
    . obtain ⟨x, hx, rfl⟩ := h.pb r hr
      exact zut (by omega)
    . exact h.rw r hr
  refine ⟨by omega, by omega, by omega, by omega, by simp; omega, by omega, by simp; omega, ?_, ?_, ?_, ?_⟩
  . exact List.any_eq_false.2 fun r hr => by rw [(hall r hr).1]; simp
  . exact List.any_eq_false.2 fun r hr => by rw [(hall r hr).2.1]; simp
  . refine List.any_eq_false.2 fun p hp => ?_
    have := h.sm p hp
    unfold unkP
    rw [zab (by omega), zaC (by omega), zab (by omega), zaC (by omega)]
    simp
  . refine znl _ _ (fun r hr => (hall r hr).2.2) fun j r hr hj => ?_
    have hlt : j < s.pb.length := by omega
    rw [List.getElem?_append_left hlt] at hr
    obtain ⟨x, hx, rfl⟩ := h.pb r (List.mem_of_getElem? hr)
    exact zok
theorem zol (n a b : Nat) : GdI (ze8 n a b) := ⟨fun r h => (by cases h), fun r h => (by cases h), fun p h => (by cases h)⟩
theorem zuv {N most : Nat} (hN : 2000 <= N) (hmo : most <= 14) (l : List UInt8) :
    ∃ n a b s g, a < 200 /\ b < 2 /\ g <= most /\ Plays (ze8 n a b) s /\ PlI g s /\ GdI s /\ GoodCirc (s.pb.length : Int) (s.vs.length : Int) (s.pb ++ s.rw) s.sm /\ q95 N l (most : Int) = some (s.res, ()) := by
  obtain ⟨n, a, b, s, g, ha, hb, hg, hp, hi, e⟩ := zAR hN hmo l
  have hgood : GdI s := Plays.keep (P := GdI) (fun g s s' hi hg h => hg.good hi h) hp 0 (zeC ha hb) (zol n a b)
  exact ⟨n, a, b, s, g, ha, hb, hg, hp, hi, hgood, zuu hi (by omega) hgood, e⟩
end
end Go.Proofs.Ytgimohchocjgcaa.V
