import Derived.Test.YtgimohchocjgcaaVWB9
import Derived.KernelRfl
import Derived.Test.YtgimohchocjgcaaVWB8
import Derived.Test.YtgimohchocjgcaaVBQ1
set_option linter.unusedVariables false
set_option linter.unusedSimpArgs false
namespace Go.Proofs.Ytgimohchocjgcaa.V
section
def Len3 (n j : Nat) (o0 o1 o2 : List Int) : Prop := o0.length = n /\ (1 <= j -> o1.length = n) /\ (2 <= j -> o2.length = n)
theorem Len3.up {n j : Nat} {o0 o1 o2 : List Int} (h : Len3 n j o0 o1 o2) (q i : Nat) (v : Int) : Len3 n j (up 0 q i v o0) (up 1 q i v o1) (up 2 q i v o2) :=
  ⟨by rw [zsR]; exact h.1, fun hj => by rw [zsR]; exact h.2.1 hj, fun hj => by rw [zsR]; exact h.2.2 hj⟩
structure Ground (cl : List Int) (rows : List Row) (n V : Nat) : Prop where
  n1 : 1 <= n
  n64 : n <= 64
  rl : rows.length <= n
  lc : cl.length = V
  cc : ∀ v : Nat, v < V -> ∃ c : Nat, c < V /\ cl.getD v 0 = (c : Int)
  vars : ∀ r ∈ rows, ∀ j, -1 <= rw3 r j /\ rw3 r j < (V : Int)
end
section
instance : Big 100000 := ⟨by omega⟩
end
section
def numN (l : List UInt8) (n : Nat) : Nat := cond (Nat.ble l.length n) n (n + 1)
def numX (l : List UInt8) (n m : Nat) : Nat := cond (Nat.ble l.length n) 0 ((l.getD n 0).toNat % m)
theorem zep (l : List UInt8) (n : Nat) {m : Nat} (h : 0 < m) : numX l n m < m := by
  unfold numX
  cases Nat.ble l.length n with
  | true => exact h
  | false => exact Nat.mod_lt _ h
theorem zeq (l : List UInt8) (n : Nat) : numN l n <= n + 1 := by
  unfold numN
  cases Nat.ble l.length n <;> simp
theorem zer {N n m : Nat} {l : List UInt8} (hm : 0 < m) (hn : n < 1000000) : q186 N (n : Int) l (m : Int) = some ((((numN l n : Nat) : Int), ()), ((numX l n m : Nat) : Int), ()) := by
  unfold q186 numN numX
  cases h : Nat.ble l.length n with
  | true =>
    have h1 := Nat.le_of_ble_eq_true h
    rw [zbp (by omega), cond_true]
    rfl
  | false =>
    have h1 : n < l.length := by
      rcases Nat.lt_or_ge n l.length with h2 | h2
      . exact h2
      . rw [Nat.ble_eq_true_of_le h2] at h; cases h
    rw [zaG (by omega), cond_false, zaD (by omega)]
    have e : wr (((n + 1 : Nat) : Int) - 1) = (n : Int) := by rw [show (((n + 1 : Nat) : Int) - 1) = (n : Int) by omega]; exact zbD (by omega) (by omega)
    rw [e, zbp (by omega), zae (by omega), zaZ (by omega), Int.toNat_natCast]
    rfl
theorem zli {N : Nat} (hN : 10 < N) {q : Fr} (h : Sc q) : q69 N q = some (true, ()) := by rw [zAP hN]; unfold Sc at h; rw [decide_eq_true h]
theorem l196 (N M : Nat) (hN : 10 < N) (V : Int) (s : Stp) (h0 : Sc s.q0) (h1 : Sc s.q1) (h2 : Sc s.q2) (h3 : Sc s.q3) (h4 : Sc s.q4) : zhx N (M + 6) V 0 s = zbs N (zhx N M) V 5 s := by
  have s0 : ∀ A, zbs N A V 0 s = A V 1 s := fun A => by unfold zbs; rw [zli hN h0]; kernel_rfl
  have s1 : ∀ A, zbs N A V 1 s = A V 2 s := fun A => by unfold zbs; rw [zli hN h1]; kernel_rfl
  have s2 : ∀ A, zbs N A V 2 s = A V 3 s := fun A => by unfold zbs; rw [zli hN h2]; kernel_rfl
  have s3 : ∀ A, zbs N A V 3 s = A V 4 s := fun A => by unfold zbs; rw [zli hN h3]; kernel_rfl
  have s4 : ∀ A, zbs N A V 4 s = A V 5 s := fun A => by unfold zbs; rw [zli hN h4]; kernel_rfl
  rw [zce, s0, zce, s1, zce, s2, zce, s3, zce, s4, zce]
def okV (kd V v : Int) : Prop := v < V /\ (0 <= v \/ kd = 2)
theorem zC4 (N M : Nat) (V : Int) (s : Stp) (f0 f1 f2 : Bool) (h0 : f0 = true -> okV s.kind V s.v0) (h1 : f1 = true -> okV s.kind V s.v1) (h2 : f2 = true -> okV s.kind V s.v2) : za1 N (M + 4) V 0 s [f0, f1, f2] = some (0, ()) := by
  have key : ∀ (v : Int) (X : Option (Int × Unit)), okV s.kind V v -> cond (leI V v) (some ((10 : Int), ())) (cond (ltI v 0) (cond (!eqI s.kind 2) (some ((10 : Int), ())) X) X) = X := fun v X ⟨a, b⟩ => by
    rw [zaG (by omega), cond_false]
    by_cases hv : v < 0
    . rw [zae hv, cond_true, zaI (by omega), Bool.not_true, cond_false]
    . rw [zad (by omega), cond_false]
  have s0 : ∀ A, zcd N A V 0 s [f0, f1, f2] = A V 1 s [f0, f1, f2] := fun A => by
    have e : zcd N A V 0 s [f0, f1, f2] = cond f0 (cond (leI V s.v0) (some ((10 : Int), ())) (cond (ltI s.v0 0) (cond (!eqI s.kind 2) (some ((10 : Int), ())) (A V 1 s [f0, f1, f2])) (A V 1 s [f0, f1, f2]))) (A V 1 s [f0, f1, f2]) := by unfold zcd; kernel_rfl
    rw [e]
    cases f0 with
    | false => rfl
    | true => rw [cond_true, key _ _ (h0 rfl)]
  have s1 : ∀ A, zcd N A V 1 s [f0, f1, f2] = A V 2 s [f0, f1, f2] := fun A => by
    have e : zcd N A V 1 s [f0, f1, f2] = cond f1 (cond (leI V s.v1) (some ((10 : Int), ())) (cond (ltI s.v1 0) (cond (!eqI s.kind 2) (some ((10 : Int), ())) (A V 2 s [f0, f1, f2])) (A V 2 s [f0, f1, f2]))) (A V 2 s [f0, f1, f2]) := by unfold zcd; kernel_rfl
    rw [e]
    cases f1 with
    | false => rfl
    | true => rw [cond_true, key _ _ (h1 rfl)]
  have s2 : ∀ A, zcd N A V 2 s [f0, f1, f2] = A V 3 s [f0, f1, f2] := fun A => by
    have e : zcd N A V 2 s [f0, f1, f2] = cond f2 (cond (leI V s.v2) (some ((10 : Int), ())) (cond (ltI s.v2 0) (cond (!eqI s.kind 2) (some ((10 : Int), ())) (A V 3 s [f0, f1, f2])) (A V 3 s [f0, f1, f2]))) (A V 3 s [f0, f1, f2]) := by unfold zcd; kernel_rfl
    rw [e]
    cases f2 with
    | false => rfl
    | true => rw [cond_true, key _ _ (h2 rfl)]
  rw [zcQ, s0, zcQ, s1, zcQ, s2, zcQ]
  rfl
def ScS (s : Stp) : Prop := Sc s.q0 /\ Sc s.q1 /\ Sc s.q2 /\ Sc s.q3 /\ Sc s.q4
def okS (V : Int) (s : Stp) : Prop := (1 <= s.kind /\ s.kind <= 7) /\ ScS s /\ (1 < s.kind -> okV s.kind V s.v0) /\ (s.kind = 2 \/ s.kind = 5 \/ s.kind = 6 -> okV s.kind V s.v1) /\ (s.kind = 2 \/ s.kind = 4 \/ s.kind = 5 -> okV s.kind V s.v2)
theorem zyu {N : Nat} (hN : 100 <= N) {V : Int} {s : Stp} (h : okS V s) : q196 N s V = some (0, ()) := by
  obtain ⟨⟨k1, k2⟩, ⟨a0, a1, a2, a3, a4⟩, b0, b1, b2⟩ := h
  obtain ⟨M, rfl⟩ : ∃ M, N = M + 6 := ⟨N - 6, by omega⟩
  unfold q196
  rw [zad (by omega), cond_false, zad (by omega), cond_false, l196 _ M (by omega) V s a0 a1 a2 a3 a4]
  obtain ⟨k, v0, v1, v2, q0, q1, q2, q3, q4⟩ := s
  simp only at k1 k2 b0 b1 b2
  have go : ∀ f0 f1 f2, (f0 = true -> okV k V v0) -> (f1 = true -> okV k V v1) -> (f2 = true -> okV k V v2) -> za1 (M + 6) (M + 6) V 0 ⟨k, v0, v1, v2, q0, q1, q2, q3, q4⟩ [f0, f1, f2] = some (0, ()) := fun f0 f1 f2 h0 h1 h2 => zC4 (M + 6) (M + 2) V _ f0 f1 f2 h0 h1 h2
  have hk : k = 1 \/ k = 2 \/ k = 3 \/ k = 4 \/ k = 5 \/ k = 6 \/ k = 7 := by omega
  rcases hk with rfl | rfl | rfl | rfl | rfl | rfl | rfl
  . exact (show _ = za1 (M + 6) (M + 6) V 0 ⟨1, v0, v1, v2, q0, q1, q2, q3, q4⟩ [false, false, false] by unfold zbs; kernel_rfl).trans (go _ _ _ (fun h => by cases h) (fun h => by cases h) (fun h => by cases h))
  . exact (show _ = za1 (M + 6) (M + 6) V 0 ⟨2, v0, v1, v2, q0, q1, q2, q3, q4⟩ [true, true, true] by unfold zbs; kernel_rfl).trans (go _ _ _ (fun _ => b0 (by omega)) (fun _ => b1 (by omega)) (fun _ => b2 (by omega)))
  . exact (show _ = za1 (M + 6) (M + 6) V 0 ⟨3, v0, v1, v2, q0, q1, q2, q3, q4⟩ [true, false, false] by unfold zbs; kernel_rfl).trans (go _ _ _ (fun _ => b0 (by omega)) (fun h => by cases h) (fun h => by cases h))
  . exact (show _ = za1 (M + 6) (M + 6) V 0 ⟨4, v0, v1, v2, q0, q1, q2, q3, q4⟩ [true, false, true] by unfold zbs; kernel_rfl).trans (go _ _ _ (fun _ => b0 (by omega)) (fun h => by cases h) (fun _ => b2 (by omega)))
  . exact (show _ = za1 (M + 6) (M + 6) V 0 ⟨5, v0, v1, v2, q0, q1, q2, q3, q4⟩ [true, true, true] by unfold zbs; kernel_rfl).trans (go _ _ _ (fun _ => b0 (by omega)) (fun _ => b1 (by omega)) (fun _ => b2 (by omega)))
  . exact (show _ = za1 (M + 6) (M + 6) V 0 ⟨6, v0, v1, v2, q0, q1, q2, q3, q4⟩ [true, true, false] by unfold zbs; kernel_rfl).trans (go _ _ _ (fun _ => b0 (by omega)) (fun _ => b1 (by omega)) (fun h => by cases h))
  . exact (show _ = za1 (M + 6) (M + 6) V 0 ⟨7, v0, v1, v2, q0, q1, q2, q3, q4⟩ [true, false, false] by unfold zbs; kernel_rfl).trans (go _ _ _ (fun _ => b0 (by omega)) (fun h => by cases h) (fun h => by cases h))
def one1 : Fr := ⟨1, 0, 0, 0⟩
def zcr (s : Stp) : List Row :=
  cond (eqI s.kind 2) [⟨s.q0, s.q1, s.q2, s.q3, s.q4, .zero, .zero, .zero, mxI s.v0 (-1), mxI s.v1 (-1), mxI s.v2 (-1)⟩]
    (cond (eqI s.kind 3) [⟨.zero, .zero, .zero, .zero, .zero, one1, .zero, .zero, s.v0, -1, -1⟩]
      (cond (eqI s.kind 4) [⟨.zero, .zero, .zero, .zero, .zero, .zero, one1, .zero, s.v0, -1, s.v2⟩]
        (cond (eqI s.kind 5) [⟨.zero, .zero, .zero, .zero, .zero, .zero, .zero, one1, s.v0, s.v1, -1⟩, ⟨.zero, .zero, .zero, .zero, .zero, .zero, .zero, .zero, s.v2, -1, -1⟩]
          (cond (eqI s.kind 7) [zdx s.v0] []))))
theorem zBq (M : Nat) (v0 v1 v2 : Int) (q0 q1 q2 q3 q4 : Fr) : q197 (M + 8) ⟨1, v0, v1, v2, q0, q1, q2, q3, q4⟩ = some (zcr ⟨1, v0, v1, v2, q0, q1, q2, q3, q4⟩, 0, ()) := by kernel_rfl
theorem zBr (M : Nat) (v0 v1 v2 : Int) (q0 q1 q2 q3 q4 : Fr) : q197 (M + 8) ⟨2, v0, v1, v2, q0, q1, q2, q3, q4⟩ = some (zcr ⟨2, v0, v1, v2, q0, q1, q2, q3, q4⟩, 0, ()) := by kernel_rfl
theorem zBs (M : Nat) (v0 v1 v2 : Int) (q0 q1 q2 q3 q4 : Fr) : q197 (M + 8) ⟨3, v0, v1, v2, q0, q1, q2, q3, q4⟩ = some (zcr ⟨3, v0, v1, v2, q0, q1, q2, q3, q4⟩, 0, ()) := by kernel_rfl
theorem zBt (M : Nat) (v0 v1 v2 : Int) (q0 q1 q2 q3 q4 : Fr) : q197 (M + 8) ⟨4, v0, v1, v2, q0, q1, q2, q3, q4⟩ = some (zcr ⟨4, v0, v1, v2, q0, q1, q2, q3, q4⟩, 0, ()) := by kernel_rfl
theorem zBu (M : Nat) (v0 v1 v2 : Int) (q0 q1 q2 q3 q4 : Fr) : q197 (M + 8) ⟨5, v0, v1, v2, q0, q1, q2, q3, q4⟩ = some (zcr ⟨5, v0, v1, v2, q0, q1, q2, q3, q4⟩, 0, ()) := by kernel_rfl
theorem zBv (M : Nat) (v0 v1 v2 : Int) (q0 q1 q2 q3 q4 : Fr) : q197 (M + 8) ⟨6, v0, v1, v2, q0, q1, q2, q3, q4⟩ = some (zcr ⟨6, v0, v1, v2, q0, q1, q2, q3, q4⟩, 0, ()) := by kernel_rfl
theorem zBw (M : Nat) (v0 v1 v2 : Int) (q0 q1 q2 q3 q4 : Fr) : q197 (M + 8) ⟨7, v0, v1, v2, q0, q1, q2, q3, q4⟩ = some (zcr ⟨7, v0, v1, v2, q0, q1, q2, q3, q4⟩, 0, ()) := by kernel_rfl
theorem zyv {N : Nat} (hN : 100 <= N) {s : Stp} (h : 1 <= s.kind /\ s.kind <= 7) : q197 N s = some (zcr s, 0, ()) := by
  obtain ⟨M, rfl⟩ : ∃ M, N = M + 8 := ⟨N - 8, by omega⟩
  obtain ⟨k, v0, v1, v2, q0, q1, q2, q3, q4⟩ := s
  simp only at h
  have hk : k = 1 \/ k = 2 \/ k = 3 \/ k = 4 \/ k = 5 \/ k = 6 \/ k = 7 := by omega
  rcases hk with rfl | rfl | rfl | rfl | rfl | rfl | rfl
  . exact zBq ..
  . exact zBr ..
  . exact zBs ..
  . exact zBt ..
  . exact zBu ..
  . exact zBv ..
  . exact zBw ..
theorem zyw {N : Nat} (hN : 100 <= N) {V : Nat} {pb rw : List Row} {sm : List Pr} {s : Stp} (h : okS (V : Int) s) (h1 : pb.length < 8) (h2 : pb.length + rw.length + (zcr s).length <= 64) (h3 : sm.length < 200) (h4 : V < 200) :
    q115 N (V : Int) pb rw sm s = some (((cond (eqI s.kind 1) ((V + 1 : Nat) : Int) (V : Int), cond (eqI s.kind 7) (pb ++ zcr s) pb, cond (eqI s.kind 7) rw (rw ++ zcr s), cond (eqI s.kind 6) (sm ++ [⟨s.v0, s.v1⟩]) sm, ()), cond (eqI s.kind 1) (V : Int) 0, 0, ())) := by
  unfold q115
  rw [zyu hN h]
  simp only [bsm]
  rw [zaI rfl, Bool.not_true, cond_false, zyv hN h.1]
  simp only [bsm]
  have e1 : wr ((pb.length : Int) + (rw.length : Int)) = ((pb.length + rw.length : Nat) : Int) := by rw [zbD (by omega) (by omega)]; omega
  have e2 : wr (((pb.length + rw.length : Nat) : Int) + ((zcr s).length : Int)) = ((pb.length + rw.length + (zcr s).length : Nat) : Int) := by rw [zbD (by omega) (by omega)]; omega
  have e3 : wr (((V + 1 : Nat) : Int) - 1) = (V : Int) := by rw [zbD (by omega) (by omega)]; omega
  rw [e1, e2, zad (by omega), cond_false, zaG (by omega), zaG (by omega), zaG (by omega), zaD (by omega), e3]
  simp only [cond_false, Nat.zero_add, List.length_cons, List.length_nil]
  rw [zay (by omega), zay (by omega), zay (by omega), zay (by omega), zay (by omega), zay (by omega)]
  simp only [mst2]
  obtain ⟨k, v0, v1, v2, q0, q1, q2, q3, q4⟩ := s
  obtain ⟨⟨k1, k2⟩, _⟩ := h
  simp only at k1 k2
  have hk : k = 1 \/ k = 2 \/ k = 3 \/ k = 4 \/ k = 5 \/ k = 6 \/ k = 7 := by omega
  rcases hk with rfl | rfl | rfl | rfl | rfl | rfl | rfl
  . show _ = some ((((V + 1 : Nat) : Int), pb, rw ++ [], sm, ()), (V : Int), 0, ())
    rw [List.append_nil]
    rfl
  . rfl
  . rfl
  . rfl
  . rfl
  . show _ = some (((V : Int), pb, rw ++ ([] : List Row), sm ++ [Pr.mk v0 v1], ()), (0 : Int), (0 : Int), ())
    rw [List.append_nil]
    rfl
  . rfl
theorem zjS {N : Nat} (hN : 100 <= N) {V : Nat} {pb rw : List Row} {sm : List Pr} {pv vs : List Fr} {st : List Stp} {s : Stp} (h : okS (V : Int) s) (h1 : pb.length < 8) (h2 : pb.length + rw.length + (zcr s).length <= 64) (h3 : sm.length < 200) (h4 : V < 200)
    (h5 : st.length < 1000) (h6 : vs.length < 1000) (c : Fr) :
    q187 N 0 0 [] [] pv vs st (V : Int) pb rw sm s c = some ((0, 0, [], [], pv, cond (eqI s.kind 1) (vs ++ [c]) vs, st ++ [s], ()), (cond (eqI s.kind 1) ((V + 1 : Nat) : Int) (V : Int), cond (eqI s.kind 7) (pb ++ zcr s) pb, cond (eqI s.kind 7) rw (rw ++ zcr s), cond (eqI s.kind 6) (sm ++ [⟨s.v0, s.v1⟩]) sm, ()), cond (eqI s.kind 1) (V : Int) 0, ()) := by
  unfold q187
  rw [zyw hN h h1 h2 h3 h4]
  simp only [bsm]
  rw [zaI rfl, Bool.not_true, cond_false]
  simp only [List.length_cons, List.length_nil]
  rw [zay (by omega), zay (by omega)]
  simp only [mst2]
  cases eqI s.kind 1 <;> rfl
def svar : Stp := ⟨1, 0, 0, 0, .zero, .zero, .zero, .zero, .zero⟩
theorem zyx (V : Int) : okS V svar := ⟨⟨by decide, by decide⟩, ⟨zaF, zaF, zaF, zaF, zaF⟩, fun h => absurd h (by decide), fun h => absurd h (by decide), fun h => absurd h (by decide)⟩
theorem zm2 {N : Nat} (hN : 100 <= N) {pb rw : List Row} {sm : List Pr} {pv vs : List Fr} {st : List Stp} (h1 : pb.length < 8) (h2 : pb.length + rw.length <= 64) (h3 : sm.length < 200) (h4 : vs.length < 200)
    (h5 : st.length < 1000) (c : Fr) :
    q185 N 0 0 [] [] pv vs st (vs.length : Int) pb rw sm c = some ((0, 0, [], [], pv, vs ++ [c], st ++ [svar], ()), (((vs.length + 1 : Nat) : Int), pb, rw, sm, ()), (vs.length : Int), ()) := by
  unfold q185
  rw [show Stp.mk 1 0 0 0 Fr.zero Fr.zero Fr.zero Fr.zero Fr.zero = svar from rfl, zjS hN (zyx _) h1 (by rw [show (zcr svar).length = 0 from rfl]; omega) h3 h4 h5 (by omega) c]
  simp only [bsm]
  show some ((0, 0, [], [], pv, vs ++ [c], st ++ [svar], ()), (((vs.length + 1 : Nat) : Int), pb, rw ++ [], sm, ()), (vs.length : Int), ()) = _
  rw [List.append_nil]
end
section
structure PlS where
  n : Nat
  pv : List Fr
  vs : List Fr
  st : List Stp
  pb : List Row
  rw : List Row
  sm : List Pr
def zd0 (n : Nat) : Fr := ⟨u64I (n : Int), 0, 0, 0⟩
def five : Fr := ⟨5, 0, 0, 0⟩
def fneg (a : Fr) : Fr := frN ((RR - fv a) % RR)
def PlS.val (s : PlS) (x : Nat) : Fr := s.vs.getD x Fr.zero
def PlS.two (s : PlS) (n : Nat) (c : Fr) (t : Stp) : PlS := ⟨n, s.pv, s.vs ++ [c], s.st ++ [svar] ++ [t], s.pb, s.rw ++ zcr t, cond (eqI t.kind 6) (s.sm ++ [⟨t.v0, t.v1⟩]) s.sm⟩
def tMul (x y z : Nat) (k : Fr) : Stp := ⟨2, x, y, z, one1, k, .zero, fneg one1, five⟩
def zu8 (z : Nat) : Stp := ⟨3, z, 0, 0, .zero, .zero, .zero, .zero, .zero⟩
def tPow (x z : Nat) : Stp := ⟨4, x, 0, z, .zero, .zero, .zero, .zero, .zero⟩
def zu9 (x y z : Nat) : Stp := ⟨5, x, y, z, .zero, .zero, .zero, .zero, .zero⟩
def zva (z x : Nat) : Stp := ⟨6, z, x, 0, .zero, .zero, .zero, .zero, .zero⟩
def tPub (x : Nat) : Stp := ⟨7, x, 0, 0, .zero, .zero, .zero, .zero, .zero⟩
def tNo (x : Nat) : Stp := ⟨2, x, -5, x, .zero, one1, .zero, fneg one1, .zero⟩
inductive Gate : PlS -> PlS -> Prop
  | mul {s : PlS} (n x y k : Nat) (hx : x < s.vs.length) (hy : y < s.vs.length) (hk : k < 9) :
      Gate s (s.two n (fadd (fadd (fmul (s.val x) (s.val y)) (fmul (zd0 k) (s.val x))) five) (tMul x y s.vs.length (zd0 k)))
  | bool {s : PlS} (n k : Nat) (hk : k < 2) : Gate s (s.two n (zd0 k) (zu8 s.vs.length))
  | pow {s : PlS} (n x : Nat) (hx : x < s.vs.length) : Gate s (s.two n (frN (fv (s.val x) ^ 5 % RR)) (tPow x s.vs.length))
  | next {s : PlS} (n x y : Nat) (hx : x < s.vs.length) (hy : y < s.vs.length) : Gate s (s.two n (fadd (s.val x) (s.val y)) (zu9 x y s.vs.length))
  | same {s : PlS} (n x : Nat) (hx : x < s.vs.length) : Gate s (s.two n (s.val x) (zva s.vs.length x))
  | pub {s : PlS} (n x : Nat) (hx : x < s.vs.length) (hp : s.pv.length < 3) : Gate s ⟨n, s.pv ++ [s.val x], s.vs, s.st ++ [tPub x], s.pb ++ [zdx x], s.rw, s.sm⟩
  | skip {s : PlS} (n : Nat) : Gate s ⟨n, s.pv, s.vs, s.st, s.pb, s.rw, s.sm⟩
  | no {s : PlS} (n x : Nat) (hx : x < s.vs.length) : Gate s ⟨n, s.pv, s.vs, s.st ++ [tNo x], s.pb, s.rw ++ zcr (tNo x), s.sm⟩
structure PlI (g : Nat) (s : PlS) : Prop where
  v2 : 2 <= s.vs.length
  v : s.vs.length <= 2 + g
  p : s.pv.length <= 3
  pp : s.pb.length = s.pv.length
  r : s.rw.length <= 2 * g
  m : s.sm.length <= g
  st : s.st.length <= 2 + 2 * g
  sc : ∀ x ∈ s.vs, Sc x
theorem PlI.val {g : Nat} {s : PlS} (h : PlI g s) (x : Nat) : Sc (s.val x) := by
  unfold PlS.val
  rcases Nat.lt_or_ge x s.vs.length with h1 | h1
  . rw [List.getD_eq_getElem?_getD, List.getElem?_eq_getElem h1]
    exact h.sc _ (List.getElem_mem h1)
  . rw [List.getD_eq_getElem?_getD, List.getElem?_eq_none h1]
    exact zaF
theorem zsS {k : Nat} (h : k < 1000) : fv (zd0 k) = k := by
  have e : (u64I (k : Int)).toNat = k := zjL (by omega)
  exact (zjM _).trans e
theorem zsT : 1000 < RR := by decide +kernel
theorem zdW {k : Nat} (h : k < 1000) : Sc (zd0 k) := by
  unfold Sc
  rw [zsS h]
  have := zsT
  omega
theorem zsU : Sc five := by unfold Sc five; decide +kernel
theorem zhC : Sc one1 := by unfold Sc one1; decide +kernel
theorem zvV (a : Fr) : Sc (fneg a) := by unfold Sc fneg; rw [ziw]; exact Nat.mod_lt _ (by have := zsT; omega)
theorem zn2 (n : Nat) : Sc (frN (n % RR)) := by unfold Sc; rw [ziw]; exact Nat.mod_lt _ (by have := zsT; omega)
theorem zhD (a b : Fr) : Sc (fadd a b) := zn2 _
theorem zsV (a b : Fr) : Sc (fmul a b) := zn2 _
theorem zvW {V : Int} {x y z : Nat} {k : Fr} (hx : (x : Int) < V) (hy : (y : Int) < V) (hz : (z : Int) < V) (hk : Sc k) : okS V (tMul x y z k) :=
  ⟨⟨by show (1 : Int) <= 2; decide, by show (2 : Int) <= 7; decide⟩, ⟨zhC, hk, zaF, zvV _, zsU⟩, fun _ => ⟨hx, .inr rfl⟩, fun _ => ⟨hy, .inr rfl⟩, fun _ => ⟨hz, .inr rfl⟩⟩
theorem zsW {V : Int} {z : Nat} (hz : (z : Int) < V) : okS V (zu8 z) :=
  ⟨⟨by show (1 : Int) <= 3; decide, by show (3 : Int) <= 7; decide⟩, ⟨zaF, zaF, zaF, zaF, zaF⟩, fun _ => ⟨hz, .inl (show (0 : Int) <= (z : Int) by omega)⟩, fun h => absurd h (by show ¬ ((3 : Int) = 2 \/ (3 : Int) = 5 \/ (3 : Int) = 6); decide), fun h => absurd h (by show ¬ ((3 : Int) = 2 \/ (3 : Int) = 4 \/ (3 : Int) = 5); decide)⟩
theorem zvX {V : Int} {x z : Nat} (hx : (x : Int) < V) (hz : (z : Int) < V) : okS V (tPow x z) :=
  ⟨⟨by show (1 : Int) <= 4; decide, by show (4 : Int) <= 7; decide⟩, ⟨zaF, zaF, zaF, zaF, zaF⟩, fun _ => ⟨hx, .inl (show (0 : Int) <= (x : Int) by omega)⟩, fun h => absurd h (by show ¬ ((4 : Int) = 2 \/ (4 : Int) = 5 \/ (4 : Int) = 6); decide), fun _ => ⟨hz, .inl (show (0 : Int) <= (z : Int) by omega)⟩⟩
theorem zsX {V : Int} {x y z : Nat} (hx : (x : Int) < V) (hy : (y : Int) < V) (hz : (z : Int) < V) : okS V (zu9 x y z) :=
  ⟨⟨by show (1 : Int) <= 5; decide, by show (5 : Int) <= 7; decide⟩, ⟨zaF, zaF, zaF, zaF, zaF⟩, fun _ => ⟨hx, .inl (show (0 : Int) <= (x : Int) by omega)⟩, fun _ => ⟨hy, .inl (show (0 : Int) <= (y : Int) by omega)⟩, fun _ => ⟨hz, .inl (show (0 : Int) <= (z : Int) by omega)⟩⟩
theorem zsY {V : Int} {x z : Nat} (hx : (x : Int) < V) (hz : (z : Int) < V) : okS V (zva z x) :=
  ⟨⟨by show (1 : Int) <= 6; decide, by show (6 : Int) <= 7; decide⟩, ⟨zaF, zaF, zaF, zaF, zaF⟩, fun _ => ⟨hz, .inl (show (0 : Int) <= (z : Int) by omega)⟩, fun _ => ⟨hx, .inl (show (0 : Int) <= (x : Int) by omega)⟩, fun h => absurd h (by show ¬ ((6 : Int) = 2 \/ (6 : Int) = 4 \/ (6 : Int) = 5); decide)⟩
theorem zvY {V : Int} {x : Nat} (hx : (x : Int) < V) : okS V (tPub x) :=
  ⟨⟨by show (1 : Int) <= 7; decide, by show (7 : Int) <= 7; decide⟩, ⟨zaF, zaF, zaF, zaF, zaF⟩, fun _ => ⟨hx, .inl (show (0 : Int) <= (x : Int) by omega)⟩, fun h => absurd h (by show ¬ ((7 : Int) = 2 \/ (7 : Int) = 5 \/ (7 : Int) = 6); decide), fun h => absurd h (by show ¬ ((7 : Int) = 2 \/ (7 : Int) = 4 \/ (7 : Int) = 5); decide)⟩
theorem zBx {V : Int} {x : Nat} (hx : (x : Int) < V) : okS V (tNo x) :=
  ⟨⟨by show (1 : Int) <= 2; decide, by show (2 : Int) <= 7; decide⟩, ⟨zaF, zhC, zaF, zvV _, zaF⟩, fun _ => ⟨hx, .inr rfl⟩, fun _ => ⟨show (-5 : Int) < V by omega, .inr rfl⟩, fun _ => ⟨hx, .inr rfl⟩⟩
theorem PlI.two {g : Nat} {s : PlS} (h : PlI g s) (n : Nat) {c : Fr} (hc : Sc c) (t : Stp) (ht : (zcr t).length <= 2) : PlI (g + 1) (s.two n c t) := by
  refine ⟨?_, ?_, h.p, h.pp, ?_, ?_, ?_, ?_⟩
  . have := h.v2; simp [PlS.two]; omega
  . have := h.v; simp [PlS.two]; omega
  . have := h.r; simp [PlS.two]; omega
  . have := h.m
    unfold PlS.two
    cases eqI t.kind 6 <;> simp <;> omega
  . have := h.st; simp [PlS.two]; omega
  . intro x hx
    simp only [PlS.two, List.mem_append, List.mem_singleton] at hx
    rcases hx with hx | rfl
    . exact h.sc x hx
    . exact hc
theorem Gate.inv {g : Nat} {s s' : PlS} (hg : Gate s s') (h : PlI g s) : PlI (g + 1) s' := by
  cases hg with
  | mul n x y k hx hy hk => exact h.two n (zhD _ _) _ (show 1 <= 2 by omega)
  | bool n k hk => exact h.two n (zdW (by omega)) _ (show 1 <= 2 by omega)
  | pow n x hx => exact h.two n (zn2 _) _ (show 1 <= 2 by omega)
  | next n x y hx hy => exact h.two n (zhD _ _) _ (show 2 <= 2 by omega)
  | same n x hx => exact h.two n (h.val x) _ (show 0 <= 2 by omega)
  | pub n x hx hp =>
    have := h.v2; have := h.v; have := h.pp; have := h.r; have := h.m; have := h.st
    refine ⟨by simpa using h.v2, by simp only; omega, by simp; omega, by simp; omega, by simp only; omega, by simp only; omega, by simp; omega, h.sc⟩
  | skip n =>
    have := h.v2; have := h.v; have := h.pp; have := h.r; have := h.m; have := h.st
    exact ⟨by simpa using h.v2, by simp only; omega, h.p, h.pp, by simp only; omega, by simp only; omega, by simp only; omega, h.sc⟩
  | no n x hx =>
    have := h.v2; have := h.v; have := h.pp; have := h.r; have := h.m; have := h.st
    refine ⟨by simpa using h.v2, by simp only; omega, h.p, h.pp, ?_, by simp only; omega, by simp; omega, h.sc⟩
    simp only [List.length_append, show (zcr (tNo x)).length = 1 from rfl]; omega
abbrev Lp95 := (List UInt8) -> Int -> Int -> Int -> Int -> Int -> Int -> Int -> Int -> Fr -> (List Row) -> (List Pr) -> (List Fr) -> (List Fr) -> (List Stp) -> (List Row) -> (List Pr) -> (List Fr) -> (List Fr) -> (List Stp) -> (List Row) -> (List Row) -> (List Pr) -> Option ((Int × Int × List Row × List Pr × List Fr × List Fr × List Stp × Unit) × Unit)
def Lp95.at (A : Lp95) (l : List UInt8) (most g : Int) (s : PlS) : Option ((Int × Int × List Row × List Pr × List Fr × List Fr × List Stp × Unit) × Unit) :=
  A l most g 0 0 0 0 (s.n : Int) (s.vs.length : Int) one1 [] [] [] [] [] [] [] s.pv s.vs s.st s.pb s.rw s.sm
theorem zlj {N g : Nat} (hN : 100 <= N) (hg : g <= 20) {s : PlS} (h : PlI g s) (n : Nat) {c d : Fr} (hc : Sc c) {t : Stp} (ht : okS ((s.vs.length + 1 : Nat) : Int) t) (h2 : (zcr t).length <= 2) (h7 : eqI t.kind 7 = false) (h1 : eqI t.kind 1 = false) :
    q187 N 0 0 [] [] s.pv (s.vs ++ [c]) (s.st ++ [svar]) (((s.vs.length + 1 : Nat)) : Int) s.pb s.rw s.sm t d =
      some ((0, 0, [], [], (s.two n c t).pv, (s.two n c t).vs, (s.two n c t).st, ()), (((s.two n c t).vs.length : Int), (s.two n c t).pb, (s.two n c t).rw, (s.two n c t).sm, ()), 0, ()) := by
  have := h.v2; have := h.v; have := h.pp; have := h.p; have := h.r; have := h.m; have := h.st
  rw [zjS hN ht (by omega) (by omega) (by omega) (by omega) (by simp; omega) (by simp; omega)]
  rw [h7, h1]
  simp only [cond_false, PlS.two, List.length_append, List.length_cons, List.length_nil]
section
variable {N g : Nat} (hN : 2000 <= N) (hg : g <= 14) {s : PlS} (h : PlI g s) (hn : s.n <= 2 + 4 * g) (l : List UInt8) (most : Int) (A : Lp95)
include hN hg h
theorem zvb (c : Fr) : q185 N 0 0 [] [] s.pv s.vs s.st (s.vs.length : Int) s.pb s.rw s.sm c = some ((0, 0, [], [], s.pv, s.vs ++ [c], s.st ++ [svar], ()), (((s.vs.length + 1 : Nat) : Int), s.pb, s.rw, s.sm, ()), (s.vs.length : Int), ()) := by
  have := h.v2; have := h.v; have := h.pp; have := h.p; have := h.r; have := h.m; have := h.st
  exact zm2 (by omega) (by omega) (by omega) (by omega) (by omega) (by omega) c
include hn
theorem zvc (hlt : (g : Int) < most) (hl : s.n < l.length) : ∃ s', Gate s s' /\ s'.n <= s.n + 4 /\ zk3 N A l most (g : Int) 0 0 0 0 (s.n : Int) (s.vs.length : Int) one1 [] [] [] [] [] [] [] s.pv s.vs s.st s.pb s.rw s.sm = Lp95.at A l most ((g + 1 : Nat) : Int) s' := by
  have hv2 := h.v2; have hv := h.v; have hpp := h.pp; have hp3 := h.p; have hr := h.r; have hm := h.m; have hst := h.st
  generalize hx : numX l s.n s.vs.length = x
  have hxl : x < s.vs.length := by rw [← hx]; exact zep _ _ (by omega)
  generalize hn1 : numN l s.n = n1
  have hn1' : n1 <= s.n + 1 := by rw [← hn1]; exact zeq _ _
  generalize hy : numX l n1 s.vs.length = y
  have hyl : y < s.vs.length := by rw [← hy]; exact zep _ _ (by omega)
  generalize hn2 : numN l n1 = n2
  have hn2' : n2 <= n1 + 1 := by rw [← hn2]; exact zeq _ _
  generalize hk : numX l n2 7 = k
  have hk7 : k < 7 := by rw [← hk]; exact zep _ _ (by omega)
  generalize hn3 : numN l n2 = n3
  have hn3' : n3 <= n2 + 1 := by rw [← hn3]; exact zeq _ _
  have e1 : q186 N (s.n : Int) l (s.vs.length : Int) = some (((n1 : Int), ()), (x : Int), ()) := by rw [zer (by omega) (by omega), hx, hn1]
  have e2 : q186 N (n1 : Int) l (s.vs.length : Int) = some (((n2 : Int), ()), (y : Int), ()) := by rw [zer (by omega) (by omega), hy, hn2]
  have e3 : q186 N (n2 : Int) l 7 = some (((n3 : Int), ()), (k : Int), ()) := by rw [show (7 : Int) = ((7 : Nat) : Int) from rfl, zer (by omega) (by omega), hk, hn3]
  have e9 : q186 N (n3 : Int) l 9 = some ((((numN l n3 : Nat) : Int), ()), ((numX l n3 9 : Nat) : Int), ()) := by rw [show (9 : Int) = ((9 : Nat) : Int) from rfl, zer (by omega) (by omega)]
  have e22 : q186 N (n3 : Int) l 2 = some ((((numN l n3 : Nat) : Int), ()), ((numX l n3 2 : Nat) : Int), ()) := by rw [show (2 : Int) = ((2 : Nat) : Int) from rfl, zer (by omega) (by omega)]
  have hvx : List.getD s.vs x Fr.zero = s.val x := rfl
  have hvy : List.getD s.vs y Fr.zero = s.val y := rfl
  have hf := fun c => zvb hN hg h c
  unfold zk3
  rw [zae hlt, cond_true, zae (by omega), cond_true, e1]
  simp only [bsm]
  rw [e2]
  simp only [bsm]
  rw [zbp (by omega : (0 : Int) <= (x : Int)), zae (by omega : (x : Int) < (s.vs.length : Int)), zbp (by omega : (0 : Int) <= (y : Int)), zae (by omega : (y : Int) < (s.vs.length : Int))]
  simp only [Bool.and_self, mst2, zaf, Int.toNat_natCast]
  rw [e3]
  simp only [bsm, hvx, hvy]
  have hks : k = 0 \/ k = 1 \/ k = 2 \/ k = 3 \/ k = 4 \/ k = 5 \/ k = 6 := by omega
  rcases hks with rfl | rfl | rfl | rfl | rfl | rfl | rfl
  . rw [show eqI ((0 : Nat) : Int) 0 = true from rfl, cond_true, e9]
    simp only [bsm, zmS]
    have hk9 : numX l n3 9 < 9 := zep _ _ (by omega)
    rw [mulR (by omega) (h.val y)]
    simp only [bsm]
    rw [show (Fr.mk (u64I ((numX l n3 9 : Nat) : Int)) 0 0 0) = zd0 (numX l n3 9) from rfl, show (Fr.mk 5 0 0 0) = five from rfl, mulR (by omega) (h.val x)]
    simp only [bsm]
    rw [addR (by omega) (zsV _ _) (zsV _ _)]
    simp only [bsm]
    rw [addR (by omega) (zhD _ _) zsU]
    simp only [bsm]
    rw [hf]
    simp only [bsm]
    rw [zvJ (by omega) zhC]
    simp only [bsm]
    rw [show Stp.mk (2 : Int) (x : Int) (y : Int) (s.vs.length : Int) one1 (zd0 (numX l n3 9)) .zero (frN ((RR - fv one1) % RR)) five = tMul x y s.vs.length (zd0 (numX l n3 9)) from rfl,
      zlj (by omega) (by omega) h (numN l n3) (zhD _ _) (t := tMul x y s.vs.length (zd0 (numX l n3 9))) (zvW (by omega) (by omega) (by omega) (zdW (by omega))) (show 1 <= 2 by omega) rfl rfl]
    simp only [bsm]
    rw [zaD (by omega)]
    exact ⟨_, .mul (numN l n3) x y _ hxl hyl hk9, by have := zeq l n3; simp only [PlS.two]; omega, rfl⟩
  . rw [show eqI ((1 : Nat) : Int) 0 = false from rfl, cond_false, show eqI ((1 : Nat) : Int) 1 = true from rfl, cond_true, e22]
    simp only [bsm, zmS]
    have hk2 : numX l n3 2 < 2 := zep _ _ (by omega)
    rw [show (Fr.mk (u64I ((numX l n3 2 : Nat) : Int)) 0 0 0) = zd0 (numX l n3 2) from rfl, hf]
    simp only [bsm]
    rw [show Stp.mk (3 : Int) (s.vs.length : Int) 0 0 .zero .zero .zero .zero .zero = zu8 s.vs.length from rfl,
      zlj (by omega) (by omega) h (numN l n3) (zdW (by omega)) (t := zu8 s.vs.length) (zsW (by omega)) (show 1 <= 2 by omega) rfl rfl]
    simp only [bsm]
    rw [zaD (by omega)]
    exact ⟨_, .bool (numN l n3) _ hk2, by have := zeq l n3; simp only [PlS.two]; omega, rfl⟩
  . rw [show eqI ((2 : Nat) : Int) 0 = false from rfl, cond_false, show eqI ((2 : Nat) : Int) 1 = false from rfl, cond_false, show eqI ((2 : Nat) : Int) 2 = true from rfl, cond_true]
    rw [zAR (h.val x) (by simp; omega) (by simp)]
    simp only [bsm]
    rw [show lv [(5 : UInt64)] = 5 from rfl, hf]
    simp only [bsm]
    rw [show Stp.mk (4 : Int) (x : Int) 0 (s.vs.length : Int) .zero .zero .zero .zero .zero = tPow x s.vs.length from rfl,
      zlj (by omega) (by omega) h n3 (zn2 _) (t := tPow x s.vs.length) (zvX (by omega) (by omega)) (show 1 <= 2 by omega) rfl rfl]
    simp only [bsm]
    rw [zaD (by omega)]
    exact ⟨_, .pow n3 x hxl, by simp only [PlS.two]; omega, rfl⟩
  . rw [show eqI ((3 : Nat) : Int) 0 = false from rfl, cond_false, show eqI ((3 : Nat) : Int) 1 = false from rfl, cond_false, show eqI ((3 : Nat) : Int) 2 = false from rfl, cond_false, show eqI ((3 : Nat) : Int) 3 = true from rfl, cond_true]
    rw [addR (by omega) (h.val x) (h.val y)]
    simp only [bsm]
    rw [hf]
    simp only [bsm]
    rw [show Stp.mk (5 : Int) (x : Int) (y : Int) (s.vs.length : Int) .zero .zero .zero .zero .zero = zu9 x y s.vs.length from rfl,
      zlj (by omega) (by omega) h n3 (zhD _ _) (t := zu9 x y s.vs.length) (zsX (by omega) (by omega) (by omega)) (show 2 <= 2 by omega) rfl rfl]
    simp only [bsm]
    rw [zaD (by omega)]
    exact ⟨_, .next n3 x y hxl hyl, by simp only [PlS.two]; omega, rfl⟩
  . rw [show eqI ((4 : Nat) : Int) 0 = false from rfl, cond_false, show eqI ((4 : Nat) : Int) 1 = false from rfl, cond_false, show eqI ((4 : Nat) : Int) 2 = false from rfl, cond_false, show eqI ((4 : Nat) : Int) 3 = false from rfl, cond_false, show eqI ((4 : Nat) : Int) 4 = true from rfl, cond_true]
    rw [hf]
    simp only [bsm]
    rw [show Stp.mk (6 : Int) (s.vs.length : Int) (x : Int) 0 .zero .zero .zero .zero .zero = zva s.vs.length x from rfl,
      zlj (by omega) (by omega) h n3 (h.val x) (t := zva s.vs.length x) (zsY (by omega) (by omega)) (show 0 <= 2 by omega) rfl rfl]
    simp only [bsm]
    rw [zaD (by omega)]
    exact ⟨_, .same n3 x hxl, by simp only [PlS.two]; omega, rfl⟩
  . rw [show eqI ((5 : Nat) : Int) 0 = false from rfl, cond_false, show eqI ((5 : Nat) : Int) 1 = false from rfl, cond_false, show eqI ((5 : Nat) : Int) 2 = false from rfl, cond_false, show eqI ((5 : Nat) : Int) 3 = false from rfl, cond_false, show eqI ((5 : Nat) : Int) 4 = false from rfl, cond_false, show eqI ((5 : Nat) : Int) 5 = true from rfl, cond_true]
    rw [zaD (by omega)]
    by_cases hp : s.pv.length < 3
    . rw [zae (by omega), cond_true]
      rw [show Stp.mk (7 : Int) (x : Int) 0 0 .zero .zero .zero .zero .zero = tPub x from rfl,
        zjS (s := tPub x) (by omega) (zvY (by omega)) (by omega) (by rw [show (zcr (tPub x)).length = 1 from rfl]; omega) (by omega) (by omega) (by omega) (by omega)]
      simp only [bsm]
      rw [zay (by simp; omega), mst2]
      exact ⟨_, .pub n3 x hxl hp, by simp only; omega, rfl⟩
    . rw [zad (by omega), cond_false]
      exact ⟨_, .skip n3, by simp only; omega, rfl⟩
  . rw [show eqI ((6 : Nat) : Int) 0 = false from rfl, cond_false, show eqI ((6 : Nat) : Int) 1 = false from rfl, cond_false, show eqI ((6 : Nat) : Int) 2 = false from rfl, cond_false, show eqI ((6 : Nat) : Int) 3 = false from rfl, cond_false, show eqI ((6 : Nat) : Int) 4 = false from rfl, cond_false, show eqI ((6 : Nat) : Int) 5 = false from rfl, cond_false]
    rw [zvJ (by omega) zhC]
    simp only [bsm]
    rw [show Stp.mk (2 : Int) (x : Int) (-5) (x : Int) .zero one1 .zero (frN ((RR - fv one1) % RR)) .zero = tNo x from rfl,
      zjS (s := tNo x) (by omega) (zBx (by omega)) (by omega) (by rw [show (zcr (tNo x)).length = 1 from rfl]; omega) (by omega) (by omega) (by omega) (by omega)]
    simp only [bsm]
    rw [zaD (by omega)]
    exact ⟨_, .no n3 x hxl, by simp only; omega, rfl⟩
end
end
section
inductive Plays : PlS -> PlS -> Prop
  | refl (s : PlS) : Plays s s
  | step {s t u : PlS} : Gate s t -> Plays t u -> Plays s u
def PlS.res (s : PlS) : (Int × Int × List Row × List Pr × List Fr × List Fr × List Stp × Unit) := ((s.pb.length : Int), (s.vs.length : Int), s.pb ++ s.rw, s.sm, s.pv, s.vs, s.st, ())
theorem zvZ {N g : Nat} (hg : g <= 14) {s : PlS} (h : PlI g s) {R : Type} (f : (((Int × List Row × List Row × Unit) × Nat) × (Int × Int × List Row × List Pr × Unit) × Unit) -> Option R) :
    Option.bind (q118 N (s.vs.length : Int) s.pb s.rw s.sm) f = f ((((s.vs.length : Int), s.pb, s.rw, ()), s.sm.length), ((s.pb.length : Int), (s.vs.length : Int), s.pb ++ s.rw, s.sm, ()), ()) := by
  have hpp := h.pp; have hp3 := h.p; have hr := h.r
  unfold q118
  rw [zay (by omega), zay (by omega), mst2, mst2, bsm]
theorem zsZ {N most : Nat} (hN : 2000 <= N) (hmo : most <= 14) (l : List UInt8) : ∀ (k g f : Nat) (s : PlS), PlI g s -> s.n <= 2 + 4 * g -> g + k = most -> k < f ->
    ∃ s' g', g' <= most /\ Plays s s' /\ PlI g' s' /\ zmZ N f l (most : Int) (g : Int) 0 0 0 0 (s.n : Int) (s.vs.length : Int) one1 [] [] [] [] [] [] [] s.pv s.vs s.st s.pb s.rw s.sm = some (s'.res, ())
  | 0, g, f + 1, s, h, hn, hk, hf => by
    refine ⟨s, g, by omega, .refl s, h, ?_⟩
    rw [ziR]
    unfold zk3
    rw [zad (by omega), cond_false, zvZ (by omega) h]
    rfl
  | k + 1, g, f + 1, s, h, hn, hk, hf => by
    rw [ziR]
    by_cases hl : s.n < l.length
    . obtain ⟨t, hg, hn', e⟩ := zvc hN (by omega) h hn l (most : Int) (zmZ N f) (by omega) hl
      obtain ⟨s', g', q0, q1, q2, q3⟩ := zsZ hN hmo l k (g + 1) f t (hg.inv h) (by omega) (by omega) (by omega)
      exact ⟨s', g', q0, .step hg q1, q2, e.trans q3⟩
    . refine ⟨s, g, by omega, .refl s, h, ?_⟩
      unfold zk3
      rw [zae (by omega), cond_true, zad (by omega), cond_false, zvZ (by omega) h]
      rfl
def zm3 (n a b : Nat) : PlS := ⟨n, [], [zd0 a, zd0 b], [svar, svar], [], [], []⟩
theorem zlk {n a b : Nat} (ha : a < 200) (hb : b < 2) : PlI 0 (zm3 n a b) :=
  ⟨Nat.le_refl 2, Nat.le_refl 2, Nat.zero_le _, rfl, Nat.le_refl 0, Nat.le_refl 0, Nat.le_refl 2, fun x hx => by
    simp only [zm3, List.mem_cons, List.not_mem_nil, or_false] at hx
    rcases hx with rfl | rfl
    . exact zdW (by omega)
    . exact zdW (by omega)⟩
theorem zBy {N most : Nat} (hN : 2000 <= N) (hmo : most <= 14) (l : List UInt8) :
    ∃ n a b s g, a < 200 /\ b < 2 /\ g <= most /\ Plays (zm3 n a b) s /\ PlI g s /\ q95 N l (most : Int) = some (s.res, ()) := by
  have e1 : q186 N 0 l 200 = some ((((numN l 0 : Nat) : Int), ()), ((numX l 0 200 : Nat) : Int), ()) := zer (n := 0) (m := 200) (by omega) (by omega)
  have hn1 := zeq l 0
  have e2 : q186 N ((numN l 0 : Nat) : Int) l 2 = some ((((numN l (numN l 0) : Nat) : Int), ()), ((numX l (numN l 0) 2 : Nat) : Int), ()) := zer (m := 2) (by omega) (by omega)
  have hn2 := zeq l (numN l 0)
  have ha : numX l 0 200 < 200 := zep _ _ (by omega)
  have hb : numX l (numN l 0) 2 < 2 := zep _ _ (by omega)
  have f1 := fun c => zm2 (N := N) (by omega) (pb := []) (rw := []) (sm := []) (pv := []) (vs := []) (st := []) (by simp) (by simp) (by simp) (by simp) (by simp) c
  have f2 := fun c d => zm2 (N := N) (by omega) (pb := []) (rw := []) (sm := []) (pv := []) (vs := [c]) (st := [svar]) (by simp) (by simp) (by simp) (by simp) (by simp) d
  obtain ⟨s, g, q0, q1, q2, q3⟩ := zsZ hN hmo l most 0 N (zm3 (numN l (numN l 0)) (numX l 0 200) (numX l (numN l 0) 2)) (zlk ha hb) (by simp only [zm3]; omega) (by omega) (by omega)
  refine ⟨_, _, _, s, g, ha, hb, q0, q1, q2, ?_⟩
  unfold q95
  simp only [zmS, bsm]
  rw [e1]
  simp only [bsm]
  rw [show q185 N 0 0 [] [] [] [] [] 0 [] [] [] (Fr.mk (u64I ((numX l 0 200 : Nat) : Int)) 0 0 0) = _ from f1 (zd0 (numX l 0 200))]
  simp only [bsm]
  rw [e2]
  simp only [bsm]
  rw [show q185 N 0 0 [] [] [] ([] ++ [zd0 (numX l 0 200)]) ([] ++ [svar]) (((([] : List Fr).length + 1 : Nat)) : Int) [] [] [] (Fr.mk (u64I ((numX l (numN l 0) 2 : Nat) : Int)) 0 0 0) = _ from f2 (zd0 (numX l 0 200)) (zd0 (numX l (numN l 0) 2))]
  simp only [bsm]
  exact q3
def zhO (V : Int) (r : Row) : Prop := bigR r = false /\ unkR V r = false /\ lowR r = false
theorem zll {x : Fr} (h : Sc x) : bg x = false := by unfold bg; unfold Sc at h; rw [decide_eq_true h]; rfl
theorem zdX {V : Int} {r : Row} (h0 : Sc r.q0) (h1 : Sc r.q1) (h2 : Sc r.q2) (h3 : Sc r.q3) (h4 : Sc r.q4) (h5 : Sc r.q5) (h6 : Sc r.q6) (h7 : Sc r.q7) (w0 : -1 <= r.w0 /\ r.w0 < V) (w1 : -1 <= r.w1 /\ r.w1 < V) (w2 : -1 <= r.w2 /\ r.w2 < V) : zhO V r := by
  refine ⟨?_, ?_, ?_⟩
  . unfold bigR
    rw [zll h0, zll h1, zll h2, zll h3, zll h4, zll h5, zll h6, zll h7]
    rfl
  . unfold unkR
    rw [zaG (by omega), zaG (by omega), zaG (by omega)]
    rfl
  . unfold lowR
    rw [zad (by omega), zad (by omega), zad (by omega)]
    rfl
theorem zyy {V v : Int} (hV : 0 <= V) (h : v < V) : -1 <= mxI v (-1) /\ mxI v (-1) < V := by
  unfold mxI
  by_cases h1 : v < -1
  . rw [zae h1, cond_true]; omega
  . rw [zad h1, cond_false]; omega
theorem zfH {V : Int} (hV : 0 <= V) {s : Stp} (h : okS V s) : ∀ r ∈ zcr s, zhO V r := by
  obtain ⟨k, v0, v1, v2, q0, q1, q2, q3, q4⟩ := s
  obtain ⟨⟨k1, k2⟩, ⟨a0, a1, a2, a3, a4⟩, b0, b1, b2⟩ := h
  simp only at k1 k2 b0 b1 b2 a0 a1 a2 a3 a4
  have hk : k = 1 \/ k = 2 \/ k = 3 \/ k = 4 \/ k = 5 \/ k = 6 \/ k = 7 := by omega
  have z := zaF
  have o := zhC
  have m : -1 <= (-1 : Int) /\ (-1 : Int) < V := by omega
  intro r hr
  rcases hk with rfl | rfl | rfl | rfl | rfl | rfl | rfl
  . cases (show r ∈ ([] : List Row) from hr)
  . have hr : r ∈ [Row.mk q0 q1 q2 q3 q4 .zero .zero .zero (mxI v0 (-1)) (mxI v1 (-1)) (mxI v2 (-1))] := hr
    rw [List.mem_singleton] at hr; subst hr
    exact zdX a0 a1 a2 a3 a4 z z z (zyy hV (b0 (by omega)).1) (zyy hV (b1 (by omega)).1) (zyy hV (b2 (by omega)).1)
  . have hr : r ∈ [Row.mk .zero .zero .zero .zero .zero one1 .zero .zero v0 (-1) (-1)] := hr
    rw [List.mem_singleton] at hr; subst hr
    have := b0 (by omega)
    unfold okV at this
    exact zdX z z z z z o z z (by simp only; omega) m m
  . have hr : r ∈ [Row.mk .zero .zero .zero .zero .zero .zero one1 .zero v0 (-1) v2] := hr
    rw [List.mem_singleton] at hr; subst hr
    have h0 := b0 (by omega)
    have h2 := b2 (by omega)
    unfold okV at h0 h2
    exact zdX z z z z z z o z (by simp only; omega) m (by simp only; omega)
  . have hr : r ∈ [Row.mk .zero .zero .zero .zero .zero .zero .zero one1 v0 v1 (-1), Row.mk .zero .zero .zero .zero .zero .zero .zero .zero v2 (-1) (-1)] := hr
    have h0 := b0 (by omega)
    have h1 := b1 (by omega)
    have h2 := b2 (by omega)
    unfold okV at h0 h1 h2
    simp only [List.mem_cons, List.not_mem_nil, or_false] at hr
    rcases hr with rfl | rfl
    . exact zdX z z z z z z z o (by simp only; omega) (by simp only; omega) m
    . exact zdX z z z z z z z z (by simp only; omega) m m
  . cases (show r ∈ ([] : List Row) from hr)
  . have hr : r ∈ [Row.mk .zero ⟨1, 0, 0, 0⟩ .zero .zero .zero .zero .zero .zero v0 (-1) (-1)] := hr
    rw [List.mem_singleton] at hr; subst hr
    have := b0 (by omega)
    unfold okV at this
    exact zdX z o z z z z z z (by simp only; omega) m m
theorem zhO.mono {V W : Int} (h : V <= W) {r : Row} (hr : zhO V r) : zhO W r := by
  obtain ⟨a, b, c⟩ := hr
  refine ⟨a, ?_, c⟩
  unfold unkR at b ⊢
  simp only [Bool.or_eq_false_iff] at b
  obtain ⟨⟨b0, b1⟩, b2⟩ := b
  have := of_decide_eq_false b0
  have := of_decide_eq_false b1
  have := of_decide_eq_false b2
  rw [zaG (by omega), zaG (by omega), zaG (by omega)]
  rfl
structure GdI (s : PlS) : Prop where
  pb : ∀ r ∈ s.pb, ∃ x : Nat, x < s.vs.length /\ r = zdx x
  rw : ∀ r ∈ s.rw, zhO (s.vs.length : Int) r
  sm : ∀ p ∈ s.sm, (0 <= p.x /\ p.x < (s.vs.length : Int)) /\ 0 <= p.y /\ p.y < (s.vs.length : Int)
theorem GdI.two {s : PlS} (h : GdI s) (n : Nat) (c : Fr) {t : Stp} (ht : okS ((s.vs.length + 1 : Nat) : Int) t) : GdI (s.two n c t) := by
  have hl : (s.two n c t).vs.length = s.vs.length + 1 := by simp [PlS.two]
  refine ⟨fun r hr => ?_, fun r hr => ?_, fun p hp => ?_⟩
  . obtain ⟨x, hx, e⟩ := h.pb r hr
    exact ⟨x, by omega, e⟩
  . rw [hl]
    simp only [PlS.two, List.mem_append] at hr
    rcases hr with hr | hr
    . exact (h.rw r hr).mono (by omega)
    . exact zfH (by omega) ht r hr
  . rw [hl]
    have old : ∀ p ∈ s.sm, (0 <= p.x /\ p.x < ((s.vs.length + 1 : Nat) : Int)) /\ 0 <= p.y /\ p.y < ((s.vs.length + 1 : Nat) : Int) := fun p hp => by
      have := h.sm p hp
      omega
    simp only [PlS.two] at hp
    cases h6 : eqI t.kind 6 with
    | false => rw [h6] at hp; exact old p hp
    | true =>
      rw [h6] at hp
      simp only [cond_true, List.mem_append, List.mem_singleton] at hp
      rcases hp with hp | rfl
      . exact old p hp
      . have h6 : t.kind = 6 := of_decide_eq_true h6
        obtain ⟨_, _, b0, b1, _⟩ := ht
        have h0 := b0 (by omega)
        have h1 := b1 (by omega)
        unfold okV at h0 h1
        simp only
        omega
theorem Gate.good {g : Nat} {s s' : PlS} (hg : Gate s s') (hi : PlI g s) (h : GdI s) : GdI s' := by
  cases hg with
  | mul n x y k hx hy hk => exact h.two n _ (zvW (by omega) (by omega) (by omega) (zdW (by omega)))
  | bool n k hk => exact h.two n _ (zsW (by omega))
  | pow n x hx => exact h.two n _ (zvX (by omega) (by omega))
  | next n x y hx hy => exact h.two n _ (zsX (by omega) (by omega) (by omega))
  | same n x hx => exact h.two n _ (zsY (by omega) (by omega))
  | pub n x hx hp =>
    refine ⟨fun r hr => ?_, h.rw, h.sm⟩
    simp only [List.mem_append, List.mem_singleton] at hr
    rcases hr with hr | rfl
    . exact h.pb r hr
    . exact ⟨x, hx, rfl⟩
  | skip n => exact ⟨h.pb, h.rw, h.sm⟩
  | no n x hx =>
    refine ⟨h.pb, fun r hr => ?_, h.sm⟩
    simp only [List.mem_append] at hr
    rcases hr with hr | hr
    . exact h.rw r hr
    . exact zfH (V := (s.vs.length : Int)) (by omega) (zBx (by omega)) r hr
theorem Plays.keep {P : PlS -> Prop} (hP : ∀ g s s', PlI g s -> Gate s s' -> P s -> P s') : ∀ {s s' : PlS}, Plays s s' -> ∀ g, PlI g s -> P s -> P s' := by
  intro s s' h
  induction h with
  | refl s => exact fun _ _ h => h
  | step h1 _ ih => exact fun g hi h => ih (g + 1) (h1.inv hi) (hP g _ _ hi h1 h)
theorem zn3 {V : Int} {x : Nat} (h : (x : Int) < V) : zhO V (zdx x) := zfH (by omega) (zvY h) _ (List.mem_singleton.2 rfl)
theorem ziV (r : Row) : zaP r r = true := by
  unfold zaP
  simp [eqI]
theorem ziW {x : Nat} : zf7 (zdx x) = false := by
  unfold zf7
  rw [show (zdx (x : Int)).w0 = (x : Int) from rfl, zad (by omega), ziV]
  rfl
theorem zjT {P : Int} : ∀ (l : List Row) (i : Nat), (∀ r ∈ l, lowR r = false) -> (∀ (j : Nat) (r : Row), l[j]? = some r -> ((i + j : Nat) : Int) < P -> zf7 r = false) -> zen P i l = false
  | [], _, _, _ => rfl
  | r :: l, i, h1, h2 => by
    unfold zen
    rw [h1 r List.mem_cons_self, zjT l (i + 1) (fun r hr => h1 r (List.mem_cons_of_mem _ hr)) fun j x hx hj => h2 (j + 1) x (by simpa using hx) (by omega)]
    by_cases hi : (i : Int) < P
    . rw [h2 0 r rfl (by simpa using hi)]
      cases ltI (i : Int) P <;> rfl
    . rw [zad hi]; rfl
theorem zvd {g : Nat} {s : PlS} (hi : PlI g s) (hg : g <= 14) (h : GdI s) : GoodCirc (s.pb.length : Int) (s.vs.length : Int) (s.pb ++ s.rw) s.sm := by
  have hv2 := hi.v2; have hv := hi.v; have hpp := hi.pp; have hp3 := hi.p; have hr := hi.r; have hm := hi.m
  have hall : ∀ r ∈ s.pb ++ s.rw, zhO (s.vs.length : Int) r := fun r hr => by
    rcases List.mem_append.1 hr with hr | hr
    . obtain ⟨x, hx, rfl⟩ := h.pb r hr
      exact zn3 (by omega)
    . exact h.rw r hr
  refine ⟨by omega, by omega, by omega, by omega, by simp; omega, by omega, by simp; omega, ?_, ?_, ?_, ?_⟩
  . exact List.any_eq_false.2 fun r hr => by rw [(hall r hr).1]; simp
  . exact List.any_eq_false.2 fun r hr => by rw [(hall r hr).2.1]; simp
  . refine List.any_eq_false.2 fun p hp => ?_
    have := h.sm p hp
    unfold unkP
    rw [zad (by omega), zaG (by omega), zad (by omega), zaG (by omega)]
    simp
  . refine zjT _ _ (fun r hr => (hall r hr).2.2) fun j r hr hj => ?_
    have hlt : j < s.pb.length := by omega
    rw [List.getElem?_append_left hlt] at hr
    obtain ⟨x, hx, rfl⟩ := h.pb r (List.mem_of_getElem? hr)
    exact ziW
theorem zpd (n a b : Nat) : GdI (zm3 n a b) := ⟨fun r h => (by cases h), fun r h => (by cases h), fun p h => (by cases h)⟩
theorem zve {N most : Nat} (hN : 2000 <= N) (hmo : most <= 14) (l : List UInt8) :
    ∃ n a b s g, a < 200 /\ b < 2 /\ g <= most /\ Plays (zm3 n a b) s /\ PlI g s /\ GdI s /\ GoodCirc (s.pb.length : Int) (s.vs.length : Int) (s.pb ++ s.rw) s.sm /\ q95 N l (most : Int) = some (s.res, ()) := by
  obtain ⟨n, a, b, s, g, ha, hb, hg, hp, hi, e⟩ := zBy hN hmo l
  have hgood : GdI s := Plays.keep (P := GdI) (fun g s s' hi hg h => hg.good hi h) hp 0 (zlk ha hb) (zpd n a b)
  exact ⟨n, a, b, s, g, ha, hb, hg, hp, hi, hgood, zvd hi (by omega) hgood, e⟩
end
section
structure Bd where
  V : Nat
  pb : List Row
  rw : List Row
  sm : List Pr
def Bd.out (b : Bd) : (Int × List Row × List Row × List Pr × Unit) := ((b.V : Int), b.pb, b.rw, b.sm, ())
structure BdI (b : Bd) : Prop where
  v : b.V <= 200
  p : b.pb.length <= 8
  r : b.pb.length + b.rw.length <= 64
  m : b.sm.length <= 200
  pb : ∀ r ∈ b.pb, ∃ x : Nat, x < b.V /\ r = zdx x
  rw : ∀ r ∈ b.rw, zhO (b.V : Int) r
  sm : ∀ p ∈ b.sm, (0 <= p.x /\ p.x < (b.V : Int)) /\ 0 <= p.y /\ p.y < (b.V : Int)
def Bd.zero : Bd := ⟨0, [], [], []⟩
theorem BdI.good {b : Bd} (h : BdI b) : GoodCirc (b.pb.length : Int) (b.V : Int) (b.pb ++ b.rw) b.sm := by
  have h1 := h.v; have h2 := h.p; have h3 := h.r; have h4 := h.m
  have hall : ∀ r ∈ b.pb ++ b.rw, zhO (b.V : Int) r := fun r hr => by
    rcases List.mem_append.1 hr with hr | hr
    . obtain ⟨x, hx, rfl⟩ := h.pb r hr
      exact zn3 (by omega)
    . exact h.rw r hr
  refine ⟨by omega, by omega, by omega, by omega, by simp; omega, by omega, by simp; omega, ?_, ?_, ?_, ?_⟩
  . exact List.any_eq_false.2 fun r hr => by rw [(hall r hr).1]; simp
  . exact List.any_eq_false.2 fun r hr => by rw [(hall r hr).2.1]; simp
  . refine List.any_eq_false.2 fun p hp => ?_
    have := h.sm p hp
    unfold unkP
    rw [zad (by omega), zaG (by omega), zad (by omega), zaG (by omega)]
    simp
  . refine zjT _ _ (fun r hr => (hall r hr).2.2) fun j r hr hj => ?_
    have hlt : j < b.pb.length := by omega
    rw [List.getElem?_append_left hlt] at hr
    obtain ⟨x, hx, rfl⟩ := h.pb r (List.mem_of_getElem? hr)
    exact ziW
end
section
theorem zv0 {N : Nat} {V P : Int} (rows : List Row) (sm : List Pr) (hb : sm.length < 1000000) : ∀ (l : List Pr) (i n : Nat), sm.drop i = l -> i + l.length = sm.length -> l.length < n -> ziO N n (i : Int) P V rows sm P V rows sm = some (true, ())
  | [], i, n + 1, hd, hl, hn => by
    rw [zhv]
    unfold ziN
    rw [zad (by simp at hl; omega), cond_false]
  | x :: l, i, n + 1, hd, hl, hn => by
    simp only [List.length_cons] at hl hn
    rw [zhv]
    unfold ziN
    have hi : i < sm.length := by omega
    rw [zae (by omega), cond_true, zaq, Bool.true_and, mst2, mst2, Int.toNat_natCast, (zsv hd hi).1]
    have he : eqL El.int [x.x, x.y] [x.x, x.y] = true := by
      unfold eqL eqL eqL eqE
      simp [eqI]
    rw [he, Bool.not_true, cond_false, zaD (by omega)]
    exact zv0 rows sm hb l (i + 1) n (zsv hd hi).2 (by omega) (by omega)
theorem zv1 {N : Nat} {V P : Int} (rows : List Row) (sm : List Pr) (hb : sm.length < 1000) (hr : rows.length < 1000) (hN : 2000 <= N) : ∀ (l : List Row) (i n : Nat), rows.drop i = l -> i + l.length = rows.length -> l.length < n -> ziQ N n (i : Int) P V rows sm P V rows sm = some (true, ())
  | [], i, n + 1, hd, hl, hn => by
    rw [zhw]
    unfold ziP
    rw [zad (by simp at hl; omega), cond_false]
    exact zv0 rows sm (by omega) sm 0 N rfl (by omega) (by omega)
  | x :: l, i, n + 1, hd, hl, hn => by
    simp only [List.length_cons] at hl hn
    rw [zhw]
    unfold ziP
    have hi : i < rows.length := by omega
    rw [zae (by omega), cond_true, zaq, Bool.true_and, mst2, mst2, Int.toNat_natCast, (zhy hd hi).1, ziV, Bool.not_true, cond_false, zaD (by omega)]
    exact zv1 rows sm hb hr hN l (i + 1) n (zhy hd hi).2 (by omega) (by omega)
theorem zs0 {N : Nat} (hN : 2000 <= N) (P V : Int) (rows : List Row) (sm : List Pr) (hr : rows.length < 1000) (hb : sm.length < 1000) : q116 N P V rows sm P V rows sm = some (true, ()) := by
  unfold q116
  rw [zaI rfl, zaI rfl, zaI rfl, zaI rfl, Bool.not_true, cond_false, cond_false, cond_false, cond_false]
  exact zv1 rows sm hb hr hN rows 0 N rfl (by omega) (by omega)
end
section
set_option maxRecDepth 100000 in
theorem zvf : q138 2000 = some (true, ()) := by kernel_rfl
theorem zvg (cut : Int) (n : Nat) (h0 : 0 < n) (hn : n < 100000) : ∃ k : Nat, k < n /\ q141 2000 cut (n : Int) = some ((k : Int), ()) := by
  unfold q141
  rw [zad (by omega), cond_false, zaZ (by omega), Bool.not_false, mst2]
  have h1 := Int.tmod_lt_of_pos cut (show (0 : Int) < (n : Int) by omega)
  have h2 : -(n : Int) < Int.tmod cut (n : Int) := by
    have := Int.lt_tmod_of_pos cut (show (0 : Int) < (n : Int) by omega)
    exact this
  by_cases hz : Int.tmod cut (n : Int) < 0
  . rw [zae hz, cond_true, zbD (by omega) (by omega)]
    exact ⟨(Int.tmod cut (n : Int) + n).toNat, by omega, by congr 2; omega⟩
  . rw [zad hz, cond_false]
    exact ⟨(Int.tmod cut (n : Int)).toNat, by omega, by congr 2; omega⟩
theorem zs1 {c0 v1 : Int} {v2 : List Row} {v3 : List Pr} {l : List UInt8} {e : Int} (h : endE c0 v1 v2 v3 l e = 0) : l = [] /\ e = 0 /\ mayF c0 v1 v2 v3 = 0 := by
  unfold endE at h
  have hs : ∀ x : Int, stk x 3 ≠ 0 := fun x => by unfold stk; split <;> omega
  cases l with
  | cons x l =>
    rw [zae (by simp), cond_true] at h
    exact absurd h (hs _)
  | nil =>
    have h : (if e = 0 then mayF c0 v1 v2 v3 else e) = 0 := h
    by_cases he : e = 0
    . rw [if_pos he] at h
      exact ⟨rfl, he, h⟩
    . rw [if_neg he] at h
      exact absurd h he
section
variable {c0 v1 : Int} {v2 : List Row} {v3 : List Pr}
theorem zvh (h : GoodCirc c0 v1 v2 v3) : q140 2000 (encC c0 v1 v2 v3) = some ((c0, v1, v2, v3, ()), 0, ()) := by
  have he := (zhB h).1 []
  rw [List.append_nil] at he
  rw [zjO, he]
  have hm := h.may
  have : endE c0 v1 v2 v3 [] 0 = 0 := by
    show (if (0 : Int) = 0 then mayF c0 v1 v2 v3 else 0) = 0
    rw [if_pos rfl, hm]
  simp only [endP, this, if_true]
theorem zs2 (h : GoodCirc c0 v1 v2 v3) {k : Nat} (hk : k < (encC c0 v1 v2 v3).length) : q140 2000 ((encC c0 v1 v2 v3).take k) = some ((0, 0, [], [], ()), 2, ()) := by
  have he := (zhB h).2 k hk
  rw [zjO, he]
  have : ∀ a b c d l, endE a b c d l 2 = 2 := fun a b c d l => by
    unfold endE
    rw [if_neg (by omega), znY (by omega)]
    cases ltI 0 (l.length : Int) <;> rfl
  simp only [endP, this]
  rfl
theorem zs3 (h : GoodCirc c0 v1 v2 v3) (x : UInt8) : q140 2000 (encC c0 v1 v2 v3 ++ [x]) = some ((0, 0, [], [], ()), 3, ()) := by
  have he := (zhB h).1 [x]
  rw [zjO, he]
  have hm := h.may
  have : endE c0 v1 v2 v3 [x] 0 = 3 := by
    show stk (if (0 : Int) = 0 then mayF c0 v1 v2 v3 else 0) 3 = 3
    rw [if_pos rfl, hm]
    rfl
  simp only [endP, this]
  rfl
end
theorem zs4 : GoodCirc 0 0 [] [] := zk7 rfl
theorem zvi (b : List UInt8) : ∃ c : Circ, ∃ err : Int, ∃ out : List UInt8, q140 2000 b = some (c, err, ()) /\ q139 2000 c.1 c.2.1 c.2.2.1 c.2.2.2.1 = some (out, 0, ()) /\ (err = 0 -> out = b) := by
  rw [zjO]
  by_cases h : endE (zdA b 0).2.1 (zdA b 0).2.2.1 (zdA b 0).2.2.2.1 (zdA b 0).2.2.2.2.1 (zdA b 0).1.1 (zdA b 0).1.2 = 0
  . obtain ⟨h1, h2, h3⟩ := zs1 h
    obtain ⟨bs, e1, e2⟩ := zsQ b [] (zdA b 0).2 (by rw [← h1]; exact zyp h2)
    rw [List.append_nil] at e1
    unfold endP
    rw [if_pos h]
    exact ⟨_, 0, _, rfl, zsD (zk7 h3) h3, fun _ => e2.symm.trans e1.symm⟩
  . unfold endP
    rw [if_neg h]
    exact ⟨_, _, _, rfl, zsD zs4 rfl, fun h0 => absurd h0 h⟩
theorem zs5 (l : List UInt8) (cut : Int) (more : UInt8) (b : List UInt8) : q37 2000 l cut more b = some (true, ()) := by
  unfold q37
  rw [zvf, bsm]
  simp only [Bool.not_true, cond_false]
  cases h80 : ltI (80 : Int) (l.length : Int) with
  | true => rfl
  | false =>
    rw [cond_false]
    cases h3000 : ltI (3000 : Int) (b.length : Int) with
    | true => rfl
    | false =>
      rw [cond_false]
      obtain ⟨n, a, b', s, g, ha, hb, hg, hp, hi, hgd, hgood, e⟩ := zve (N := 2000) (most := 14) (Nat.le_refl _) (Nat.le_refl _) l
      rw [show ((14 : Nat) : Int) = 14 from rfl] at e
      rw [e, bsm]
      simp only [PlS.res]
      generalize hP : (s.pb.length : Int) = P at hgood
      generalize hV : (s.vs.length : Int) = V at hgood
      generalize hR : s.pb ++ s.rw = R at hgood
      generalize hS : s.sm = S at hgood
      have h2 := hgood.rows; have h3 := hgood.same
      obtain ⟨l1, l2⟩ := zu0 (c0 := P) (v1 := V) h2 h3
      rw [zsD hgood hgood.may, bsm]
      simp only []
      rw [zvh hgood, bsm]
      obtain ⟨k, hk, ek⟩ := zvg cut (encC P V R S).length (by omega) l2
      rw [ek, bsm]
      simp only []
      rw [zaq, zbp (by omega), Bool.and_self, mst2, Int.sub_zero, Int.toNat_natCast, zs2 hgood hk, bsm, zay (by omega), mst2, zay (by simp; omega), mst2, zs3 hgood, bsm]
      obtain ⟨c, err, out, e1, e2, e3⟩ := zvi b
      rw [e1, bsm]
      simp only []
      rw [e2, bsm]
      simp only []
      rw [zaI rfl, cond_true, zs0 (Nat.le_refl _) P V R S (by omega) (by omega), bsm]
      simp only [zaI rfl, cond_true]
      by_cases h0 : err = 0
      . rw [zaI h0, Bool.not_true, cond_false, e3 h0, show eqB b b = true from decide_eq_true rfl]
      . rw [zaZ h0, Bool.not_false, cond_true]
end
end Go.Proofs.Ytgimohchocjgcaa.V
