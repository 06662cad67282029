import Derived.Test.YtgimohchocjgcaaVWB10
import Derived.KernelRfl
import Derived.Test.YtgimohchocjgcaaVWB7
set_option linter.unusedVariables false
set_option linter.unusedSimpArgs false
namespace Go.Proofs.Ytgimohchocjgcaa.V
section
def Len3 (n j : Nat) (o0 o1 o2 : List Int) : Prop := o0.length = n /\ (1 <= j -> o1.length = n) /\ (2 <= j -> o2.length = n)
theorem Len3.up {n j : Nat} {o0 o1 o2 : List Int} (h : Len3 n j o0 o1 o2) (q i : Nat) (v : Int) : Len3 n j (up 0 q i v o0) (up 1 q i v o1) (up 2 q i v o2) :=
  ⟨by rw [zrA]; exact h.1, fun hj => by rw [zrA]; exact h.2.1 hj, fun hj => by rw [zrA]; exact h.2.2 hj⟩
structure Ground (cl : List Int) (rows : List Row) (n V : Nat) : Prop where
  n1 : 1 <= n
  n64 : n <= 64
  rl : rows.length <= n
  lc : cl.length = V
  cc : ∀ v : Nat, v < V -> ∃ c : Nat, c < V /\ cl.getD v 0 = (c : Int)
  vars : ∀ r ∈ rows, ∀ j, -1 <= rw3 r j /\ rw3 r j < (V : Int)
theorem zuK {rows : List Row} {i : Nat} (h : i < rows.length) : rows.getD i zrow ∈ rows := by
  rw [List.getD_eq_getElem?_getD, List.getElem?_eq_getElem h]
  exact List.getElem_mem h
theorem zrC {N f nn i j V : Nat} {A : Int -> Int -> Int -> Int -> (List Row) -> (List Pr) -> (List Int) -> (List Int) -> (List Int) -> (List Int) -> (List Int) -> (List Int) -> (List Int) -> (List Int) -> (List Int) -> Option ((List Int × List Int × List Int × Unit) × Int × Unit)} {t54 c0 v1 : Int} {rows : List Row} {S : List Pr} {cl fi la x y z o0 o1 o2 : List Int}
    (G : Ground cl rows nn V) (hj : j < 3) (hi : i < nn) (hl : Len3 nn j o0 o1 o2) (h : PInv (kC cl rows nn) V nn (j * nn + i) fi la (oG nn o0 o1 o2)) :
    ∃ fi' la' p0 p1 p2, zaB N A (f + 1) (nn : Int) (j : Int) t54 (nn : Int) (i : Int) c0 v1 rows S cl fi la x y z o0 o1 o2 = zaB N A f (nn : Int) (j : Int) t54 (nn : Int) ((i + 1 : Nat) : Int) c0 v1 rows S cl fi' la' x y z p0 p1 p2 /\
      Len3 nn j p0 p1 p2 /\ PInv (kC cl rows nn) V nn (j * nn + i + 1) fi' la' (oG nn p0 p1 p2) := by
  have hb := G.n64
  have hjn : j * nn <= 2 * nn := Nat.mul_le_mul_right _ (by omega)
  have l0 : j = 0 -> o0.length = nn := fun _ => hl.1
  have l1 : j = 1 -> o1.length = nn := fun e => hl.2.1 (by omega)
  have l2 : j = 2 -> o2.length = nn := fun e => hl.2.2 (by omega)
  have hoG := fun v w hw => zwO (v := v) hi hj l0 l1 l2 w hw
  obtain ⟨c1, c2⟩ := cell (j := j) hi
  have hvar : varC rows nn (j * nn + i) = if rows.length <= i then -1 else rw3 (rows.getD i zrow) j := by unfold varC; rw [c1, c2]
  by_cases hs : rows.length <= i \/ rw3 (rows.getD i zrow) j < 0
  . have hneg : varC rows nn (j * nn + i) < 0 := by
      rw [hvar]
      split
      . omega
      . rcases hs with hs | hs
        . contradiction
        . exact hs
    have hk : kC cl rows nn (j * nn + i) < 0 := by unfold kC; rw [if_pos hneg]; omega
    refine ⟨fi, la, up 0 j i ((j * nn + i : Nat) : Int) o0, up 1 j i ((j * nn + i : Nat) : Int) o1, up 2 j i ((j * nn + i : Nat) : Int) o2, ?_, hl.up _ _ _, ztO h hk (fun w hw => ?_) ?_⟩
    . obtain rfl | rfl | rfl : j = 0 \/ j = 1 \/ j = 2 := by omega
      . exact zzR A t54 c0 v1 rows S cl fi la x y z o0 o1 o2 hb hi (l0 rfl) hs
      . exact zzS A t54 c0 v1 rows S cl fi la x y z o0 o1 o2 hb hi (l1 rfl) hs
      . exact zzT A t54 c0 v1 rows S cl fi la x y z o0 o1 o2 hb hi (l2 rfl) hs
    . rw [hoG _ w (by omega), if_neg (by omega)]
    . rw [hoG _ _ (by omega), if_pos rfl]
  . have hr : i < rows.length := by omega
    have hnn : ¬ rw3 (rows.getD i zrow) j < 0 := fun e => hs (.inr e)
    obtain ⟨v, hv⟩ : ∃ v : Nat, rw3 (rows.getD i zrow) j = (v : Int) := ⟨(rw3 (rows.getD i zrow) j).toNat, by omega⟩
    have hvV : v < V := by have := (G.vars _ (zuK hr) j).2; omega
    obtain ⟨c, hc, hcl⟩ := G.cc v hvV
    have hk : kC cl rows nn (j * nn + i) = (c : Int) := by
      unfold kC
      rw [hvar, if_neg (by omega : ¬ rows.length <= i), hv, if_neg (by omega), Int.toNat_natCast, hcl]
    by_cases hf : fi.getD c 0 < 0
    . refine ⟨setL fi c ((j * nn + i : Nat) : Int), setL la c ((j * nn + i : Nat) : Int), up 0 j i ((j * nn + i : Nat) : Int) o0, up 1 j i ((j * nn + i : Nat) : Int) o1, up 2 j i ((j * nn + i : Nat) : Int) o2, ?_, hl.up _ _ _, zwP h hc hk hf (fun w hw => ?_) ?_⟩
      . obtain rfl | rfl | rfl : j = 0 \/ j = 1 \/ j = 2 := by omega
        . exact zBQ A t54 c0 v1 rows S cl fi la x y z o0 o1 o2 hb hi (l0 rfl) hr hv hvV hc G.lc h.lf h.ll hcl hf
        . exact zBR A t54 c0 v1 rows S cl fi la x y z o0 o1 o2 hb hi (l1 rfl) hr hv hvV hc G.lc h.lf h.ll hcl hf
        . exact zBS A t54 c0 v1 rows S cl fi la x y z o0 o1 o2 hb hi (l2 rfl) hr hv hvV hc G.lc h.lf h.ll hcl hf
      . rw [hoG _ w (by omega), if_neg (by omega)]
      . rw [hoG _ _ (by omega), if_pos rfl]
    . obtain ⟨g, hg, hga⟩ : ∃ g : Nat, la.getD c 0 = (g : Int) /\ g < j * nn + i := by
        rcases h.F c hc with ⟨e, _⟩ | ⟨f, g, e1, e2, _, e3, _⟩
        . omega
        . exact ⟨g, e2, e3⟩
      have hqn : g / nn < j + 1 := Nat.div_lt_of_lt_mul (by rw [Nat.mul_comm, Nat.succ_mul]; omega)
      have hm : g % nn < nn := Nat.mod_lt _ (by omega)
      have hgc : g / nn * nn + g % nn = g := by rw [Nat.mul_comm]; exact Nat.div_add_mod g nn
      have L1 := hl.up j i ((j * nn + i : Nat) : Int)
      have L2 := L1.up (g / nn) (g % nn) ((j * nn + i : Nat) : Int)
      have hO2 := fun w hw => zwO (v := ((j * nn + i : Nat) : Int)) (j := g / nn) hm (by omega) (fun _ => L1.1) (fun e => L1.2.1 (by omega)) (fun e => L1.2.2 (by omega)) w hw
      have hO3 := fun w hw => zwO (v := fi.getD c 0) hi hj (fun _ => L2.1) (fun e => L2.2.1 (by omega)) (fun e => L2.2.2 (by omega)) w hw
      refine ⟨fi, setL la c ((j * nn + i : Nat) : Int), _, _, _, ?_, L2.up j i (fi.getD c 0), ztP h hc hk hf hg (fun w hw hwg => ?_) ?_ ?_⟩
      . obtain ⟨q, hq⟩ : ∃ q, g / nn = q := ⟨_, rfl⟩
        rw [hq] at hqn
        rw [hq]
        obtain rfl | rfl | rfl : j = 0 \/ j = 1 \/ j = 2 := by omega
        . obtain rfl : q = 0 := by omega
          exact ztQ A t54 c0 v1 rows S cl fi la x y z o0 o1 o2 hb hi (l0 rfl) hr hv hvV hc G.lc h.lf h.ll hcl hf hg hq (by omega)
        . obtain rfl | rfl : q = 0 \/ q = 1 := by omega
          . exact ztR A t54 c0 v1 rows S cl fi la x y z o0 o1 o2 hb hi (l1 rfl) hl.1 hr hv hvV hc G.lc h.lf h.ll hcl hf hg hq (by omega)
          . exact ztS A t54 c0 v1 rows S cl fi la x y z o0 o1 o2 hb hi (l1 rfl) hr hv hvV hc G.lc h.lf h.ll hcl hf hg hq (by omega)
        . obtain rfl | rfl | rfl : q = 0 \/ q = 1 \/ q = 2 := by omega
          . exact ztT A t54 c0 v1 rows S cl fi la x y z o0 o1 o2 hb hi (l2 rfl) hl.1 hr hv hvV hc G.lc h.lf h.ll hcl hf hg hq (by omega)
          . exact ztU A t54 c0 v1 rows S cl fi la x y z o0 o1 o2 hb hi (l2 rfl) (hl.2.1 (by omega)) hr hv hvV hc G.lc h.lf h.ll hcl hf hg hq (by omega)
          . exact ztV A t54 c0 v1 rows S cl fi la x y z o0 o1 o2 hb hi (l2 rfl) hr hv hvV hc G.lc h.lf h.ll hcl hf hg hq (by omega)
      . rw [hO3 w (by omega), if_neg (by omega), hO2 w (by omega), if_neg (by omega), hoG _ w (by omega), if_neg (by omega)]
      . rw [hO3 g (by omega), if_neg (by omega), hO2 g (by omega), if_pos hgc.symm]
      . rw [hO3 _ (by omega), if_pos rfl]
theorem zeD {N nn j V : Nat} {A : Int -> Int -> Int -> Int -> (List Row) -> (List Pr) -> (List Int) -> (List Int) -> (List Int) -> (List Int) -> (List Int) -> (List Int) -> (List Int) -> (List Int) -> (List Int) -> Option ((List Int × List Int × List Int × Unit) × Int × Unit)} {c0 v1 : Int} {rows : List Row} {S : List Pr} {cl x y z : List Int}
    (G : Ground cl rows nn V) (hj : j < 3) : ∀ (k i f : Nat) (fi la o0 o1 o2 : List Int), i + k = nn -> k < f -> Len3 nn j o0 o1 o2 -> PInv (kC cl rows nn) V nn (j * nn + i) fi la (oG nn o0 o1 o2) ->
    ∃ fi' la' p0 p1 p2, zaB N A f (nn : Int) (j : Int) (j : Int) (nn : Int) (i : Int) c0 v1 rows S cl fi la x y z o0 o1 o2 = A (nn : Int) ((j + 1 : Nat) : Int) c0 v1 rows S cl fi' la' x y z p0 p1 p2 /\
      Len3 nn j p0 p1 p2 /\ PInv (kC cl rows nn) V nn ((j + 1) * nn) fi' la' (oG nn p0 p1 p2)
  | 0, i, f + 1, fi, la, o0, o1, o2, hk, hf, hl, h => by
    obtain rfl : i = nn := by omega
    refine ⟨fi, la, o0, o1, o2, ?_, hl, ?_⟩
    . rw [zaI]
      unfold zbf
      rw [zab (by omega), cond_false, zat (by omega)]
    . rw [Nat.succ_mul]; exact h
  | k + 1, i, f + 1, fi, la, o0, o1, o2, hk, hf, hl, h => by
    obtain ⟨fi1, la1, p0, p1, p2, e1, l1, h1⟩ := zrC (N := N) (f := f) (A := A) (t54 := (j : Int)) (c0 := c0) (v1 := v1) (S := S) (x := x) (y := y) (z := z) G hj (by omega : i < nn) hl h
    obtain ⟨fi2, la2, r0, r1, r2, e2, l2, h2⟩ := zeD (N := N) (A := A) (c0 := c0) (v1 := v1) (S := S) (x := x) (y := y) (z := z) G hj k (i + 1) f fi1 la1 p0 p1 p2 (by omega) (by omega) l1 (by rw [← Nat.add_assoc]; exact h1)
    exact ⟨fi2, la2, r0, r1, r2, e1.trans e2, l2, h2⟩
theorem ze5 (n : Nat) : (List.replicate n (0 : Int)).length = n := List.length_replicate
theorem zi4 {k : Nat -> Int} {V n a : Nat} {fi la : List Int} {O O' : Nat -> Int} (h : PInv k V n a fi la O) (e : ∀ z, z < a -> O' z = O z) : PInv k V n a fi la O' :=
  ⟨h.lf, h.ll, h.F, fun z hz => by rw [e z hz]; exact h.O z hz⟩
theorem mk3 (n : Nat) (h64 : n <= 64) : (leI 0 (n : Int) && (eqI (n : Int) (n : Int) && leN (Int.toNat (n : Int) * 8) 140737488355328)) = true := by
  rw [zaf, zaV rfl, Int.toNat_natCast, zaG (by omega)]; rfl
theorem zlU {N nn V : Nat} {c0 v1 : Int} {rows : List Row} {S : List Pr} {cl x y z fi la : List Int} (hN : 2000 <= N)
    (G : Ground cl rows nn V) (h0 : PInv (kC cl rows nn) V nn 0 fi la (fun _ => 0)) (f : Nat) :
    ∃ p0 p1 p2, zbg N (f + 4) (nn : Int) 0 c0 v1 rows S cl fi la x y z [] [] [] = some ((p0, p1, p2, ()), 0, ()) /\ Len3 nn 2 p0 p1 p2 /\
      ∀ w, w < 3 * nn -> ∃ u : Nat, oG nn p0 p1 p2 w = (u : Int) /\ zcg (kC cl rows nn) (3 * nn) w u := by
  have hb := G.n64
  have hn := G.n1
  have e0 : PInv (kC cl rows nn) V nn (0 * nn + 0) fi la (oG nn (List.replicate nn 0) [] []) := by
    rw [Nat.zero_mul, Nat.add_zero]; exact zi4 h0 (fun w hw => absurd hw (by omega))
  obtain ⟨fi1, la1, a0, a1, a2, r1, l1, h1⟩ := zeD (N := N) (A := zbg N (f + 3)) (c0 := c0) (v1 := v1) (S := S) (x := x) (y := y) (z := z) G (by omega : 0 < 3) nn 0 N fi la (List.replicate nn 0) [] [] (by omega) (by omega) ⟨ze5 nn, fun h => by omega, fun h => by omega⟩ e0
  have e1 : PInv (kC cl rows nn) V nn (1 * nn + 0) fi1 la1 (oG nn a0 (List.replicate nn 0) a2) := by
    rw [Nat.add_zero]
    refine zi4 h1 fun w hw => ?_
    have : w / nn = 0 := Nat.div_eq_of_lt (by omega)
    unfold oG
    rw [if_pos this, if_pos this]
  obtain ⟨fi2, la2, b0, b1, b2, r2, l2, h2⟩ := zeD (N := N) (A := zbg N (f + 2)) (c0 := c0) (v1 := v1) (S := S) (x := x) (y := y) (z := z) G (by omega : 1 < 3) nn 0 N fi1 la1 a0 (List.replicate nn 0) a2 (by omega) (by omega) ⟨l1.1, fun h => ze5 nn, fun h => by omega⟩ e1
  have e2 : PInv (kC cl rows nn) V nn (2 * nn + 0) fi2 la2 (oG nn b0 b1 (List.replicate nn 0)) := by
    rw [Nat.add_zero]
    refine zi4 h2 fun w hw => ?_
    have : w / nn < 2 := Nat.div_lt_of_lt_mul (by omega)
    unfold oG
    by_cases c : w / nn = 0
    . rw [if_pos c, if_pos c]
    . have q2 : ∀ q : Nat, q < 2 -> q ≠ 0 -> q = 1 := by omega
      have c1 := q2 _ this c
      rw [if_neg c, if_neg c, if_pos c1, if_pos c1]
  obtain ⟨fi3, la3, d0, d1, d2, r3, l3, h3⟩ := zeD (N := N) (A := zbg N (f + 1)) (c0 := c0) (v1 := v1) (S := S) (x := x) (y := y) (z := z) G (by omega : 2 < 3) nn 0 N fi2 la2 b0 b1 (List.replicate nn 0) (by omega) (by omega) ⟨l2.1, fun h => l2.2.1 (by omega), fun h => ze5 nn⟩ e2
  refine ⟨d0, d1, d2, ?_, l3, fun w hw => zwQ h3 hw⟩
  have s1 : zbg N (f + 4) (nn : Int) 0 c0 v1 rows S cl fi la x y z [] [] [] = zaB N (zbg N (f + 3)) N (nn : Int) ((0 : Nat) : Int) ((0 : Nat) : Int) (nn : Int) ((0 : Nat) : Int) c0 v1 rows S cl fi la x y z (List.replicate nn 0) [] [] := by
    rw [zci]
    unfold zdl
    rw [zaa (by omega : (0 : Int) < 3), cond_true, mk3 nn hb, mst2]
    rfl
  have s2 : zbg N (f + 3) (nn : Int) ((0 + 1 : Nat) : Int) c0 v1 rows S cl fi1 la1 x y z a0 a1 a2 = zaB N (zbg N (f + 2)) N (nn : Int) ((1 : Nat) : Int) ((1 : Nat) : Int) (nn : Int) ((0 : Nat) : Int) c0 v1 rows S cl fi1 la1 x y z a0 (List.replicate nn 0) a2 := by
    rw [zci]
    unfold zdl
    rw [zaa (by omega : ((0 + 1 : Nat) : Int) < 3), cond_true, mk3 nn hb, mst2]
    rfl
  have s3 : zbg N (f + 2) (nn : Int) ((1 + 1 : Nat) : Int) c0 v1 rows S cl fi2 la2 x y z b0 b1 b2 = zaB N (zbg N (f + 1)) N (nn : Int) ((2 : Nat) : Int) ((2 : Nat) : Int) (nn : Int) ((0 : Nat) : Int) c0 v1 rows S cl fi2 la2 x y z b0 b1 (List.replicate nn 0) := by
    rw [zci]
    unfold zdl
    rw [zaa (by omega : ((1 + 1 : Nat) : Int) < 3), cond_true, mk3 nn hb, mst2]
    rfl
  have s4 : zbg N (f + 1) (nn : Int) ((2 + 1 : Nat) : Int) c0 v1 rows S cl fi3 la3 x y z d0 d1 d2 = some ((d0, d1, d2, ()), 0, ()) := by
    rw [zci]
    unfold zdl
    rw [zab (by omega), cond_false]
  rw [s1, r1, s2, r2, s3, r3, s4]
theorem zj2 {N V : Nat} {n6 c0 v1 : Int} {rows : List Row} {S : List Pr} {cl la x y z o0 o1 o2 : List Int} (hV : V < 1000000) :
    ∀ (k t f : Nat) (fi : List Int), fi.length = V -> (∀ i : Nat, i < t -> fi.getD i 0 = -1) -> t + k = V -> k < f ->
    ∃ fi', zh5 N f n6 (V : Int) (t : Int) c0 v1 rows S cl fi la x y z o0 o1 o2 = zbg N N n6 0 c0 v1 rows S cl fi' la x y z o0 o1 o2 /\ fi'.length = V /\ ∀ i : Nat, i < V -> fi'.getD i 0 = -1
  | 0, t, f + 1, fi, hl, h, ht, hf => by
    refine ⟨fi, ?_, hl, fun i hi => h i (by omega)⟩
    rw [zgQ]
    unfold zh4
    rw [zab (by omega), cond_false]
  | k + 1, t, f + 1, fi, hl, h, ht, hf => by
    rw [zgQ]
    unfold zh4
    rw [zaa (by omega : (t : Int) < (V : Int)), cond_true, zaf, hl, zaa (by omega : (t : Int) < (V : Int)), zat (by omega), Int.toNat_natCast]
    simp only [Bool.and_self, mst2]
    refine zj2 hV k (t + 1) f _ (by rw [zaA]; exact hl) (fun i hi => ?_) (by omega) (by omega)
    rw [zaS]
    by_cases e : i = t
    . rw [if_pos ⟨e, by rw [hl]; omega⟩]
    . rw [if_neg (fun hc => e hc.1)]; exact h i (by omega)
end
section
theorem zuL {q : Nat} (h : q < 9223372036854775807) : wr (q : Int) = (q : Int) := zaX (by omega) (by omega)
theorem zrD {N L z : Nat} (c0 v1 : Int) (rows : List Row) (S : List Pr) (h6 : L <= 6) (hz : z < 3 * 2 ^ L) : q189 N c0 v1 rows S (L : Int) (z : Int) = some (varC rows (2 ^ L) z, ()) := by
  have hp := zbN L
  have hle := zbM h6
  have hm : z % 2 ^ L < 2 ^ L := Nat.mod_lt _ hp
  have hq : z / 2 ^ L < 3 := Nat.div_lt_of_lt_mul (by omega)
  have hd : z / 2 ^ L <= z := Nat.div_le_self _ _
  unfold q189 varC
  rw [zaf, zaa (by omega : (L : Int) < 18446744073709551616), sh1' h6, zaQ (by omega : ¬ ((2 ^ L : Nat) : Int) = 0), ziW, zbU, zuL (Nat.lt_of_le_of_lt hd (by omega)), Int.toNat_natCast, zaf]
  simp only [Bool.not_false, mst2]
  by_cases h : rows.length <= z % 2 ^ L
  . rw [zaJ (by omega), cond_true, if_pos h]
  . rw [zap (by omega), cond_false, if_neg h, zaa (by omega), show (true && true) = true from rfl, mst2]
    obtain ⟨q, hqq⟩ : ∃ q, z / 2 ^ L = q := ⟨_, rfl⟩
    rw [hqq] at hq
    rw [hqq]
    obtain rfl | rfl | rfl : q = 0 \/ q = 1 \/ q = 2 := by omega
    . rfl
    . rfl
    . rfl
def ap (m q : Nat) (y : Int) (o : List Int) : List Int := if q = m then o ++ [y] else o
def LenP (n x : Nat) (o0 o1 o2 : List Int) : Prop := o0.length = min x n /\ o1.length = min (x - n) n /\ o2.length = x - 2 * n
theorem LenP.ap {n x : Nat} {y : Int} {o0 o1 o2 : List Int} (h : LenP n x o0 o1 o2) (hx : x < 3 * n) : LenP n (x + 1) (ap 0 (x / n) y o0) (ap 1 (x / n) y o1) (ap 2 (x / n) y o2) := by
  obtain ⟨h0, h1, h2⟩ := h
  have hd := Nat.div_add_mod x n
  have hm : x % n < n := Nat.mod_lt _ (by omega)
  have hq : x / n < 3 := Nat.div_lt_of_lt_mul (by omega)
  obtain ⟨q, hqq⟩ : ∃ q, x / n = q := ⟨_, rfl⟩
  rw [hqq] at hq hd
  rw [hqq]
  obtain rfl | rfl | rfl : q = 0 \/ q = 1 \/ q = 2 := by omega
  . refine ⟨?_, ?_, ?_⟩
    . show (o0 ++ [y]).length = _
      rw [List.length_append, List.length_singleton, h0]; omega
    . show o1.length = _
      rw [h1]; omega
    . show o2.length = _
      rw [h2]; omega
  . refine ⟨?_, ?_, ?_⟩
    . show o0.length = _
      rw [h0]; omega
    . show (o1 ++ [y]).length = _
      rw [List.length_append, List.length_singleton, h1]; omega
    . show o2.length = _
      rw [h2]; omega
  . refine ⟨?_, ?_, ?_⟩
    . show o0.length = _
      rw [h0]; omega
    . show o1.length = _
      rw [h1]; omega
    . show (o2 ++ [y]).length = _
      rw [List.length_append, List.length_singleton, h2]; omega
theorem zi5 {l : List Int} {y : Int} {i : Nat} (h : i < l.length) : (l ++ [y]).getD i 0 = l.getD i 0 := by
  simp [List.getD_eq_getElem?_getD, List.getElem?_append_left h]
theorem zgY {l : List Int} {y : Int} : (l ++ [y]).getD l.length 0 = y := by
  simp [List.getD_eq_getElem?_getD]
theorem zBT {n x : Nat} {y : Int} {o0 o1 o2 : List Int} (h : LenP n x o0 o1 o2) (hx : x < 3 * n) (z : Nat) (hz : z <= x) :
    oG n (ap 0 (x / n) y o0) (ap 1 (x / n) y o1) (ap 2 (x / n) y o2) z = if z = x then y else oG n o0 o1 o2 z := by
  obtain ⟨h0, h1, h2⟩ := h
  have hd := Nat.div_add_mod x n
  have hm : x % n < n := Nat.mod_lt _ (by omega)
  have hq : x / n < 3 := Nat.div_lt_of_lt_mul (by omega)
  have hd' := Nat.div_add_mod z n
  have hm' : z % n < n := Nat.mod_lt _ (by omega)
  have hq' : z / n < 3 := Nat.div_lt_of_lt_mul (by omega)
  by_cases e : z = x
  . subst e
    rw [if_pos rfl]
    unfold oG
    obtain ⟨q, hqq⟩ : ∃ q, z / n = q := ⟨_, rfl⟩
    obtain ⟨m, hmm⟩ : ∃ m, z % n = m := ⟨_, rfl⟩
    rw [hqq] at hq hd
    rw [hmm] at hm hd
    rw [hqq, hmm]
    obtain rfl | rfl | rfl : q = 0 \/ q = 1 \/ q = 2 := by omega
    . show (o0 ++ [y]).getD m 0 = y
      rw [show m = o0.length by omega]; exact zgY
    . show (o1 ++ [y]).getD m 0 = y
      rw [show m = o1.length by omega]; exact zgY
    . show (o2 ++ [y]).getD m 0 = y
      rw [show m = o2.length by omega]; exact zgY
  . rw [if_neg e]
    unfold oG
    obtain ⟨q, hqq⟩ : ∃ q, x / n = q := ⟨_, rfl⟩
    obtain ⟨q', hqq'⟩ : ∃ q, z / n = q := ⟨_, rfl⟩
    obtain ⟨m, hmm⟩ : ∃ m, z % n = m := ⟨_, rfl⟩
    obtain ⟨m', hmm'⟩ : ∃ m, x % n = m := ⟨_, rfl⟩
    rw [hqq, hmm'] at hd
    rw [hqq] at hq
    rw [hmm'] at hm
    rw [hqq', hmm] at hd'
    rw [hqq'] at hq'
    rw [hmm] at hm'
    rw [hqq, hqq', hmm]
    obtain rfl | rfl | rfl : q = 0 \/ q = 1 \/ q = 2 := by omega
    . obtain rfl : q' = 0 := by
        obtain rfl | rfl | rfl : q' = 0 \/ q' = 1 \/ q' = 2 := by omega
        . rfl
        . omega
        . omega
      show (o0 ++ [y]).getD m 0 = o0.getD m 0
      exact zi5 (by omega)
    . obtain rfl | rfl | rfl : q' = 0 \/ q' = 1 \/ q' = 2 := by omega
      . rfl
      . show (o1 ++ [y]).getD m 0 = o1.getD m 0
        exact zi5 (by omega)
      . omega
    . obtain rfl | rfl | rfl : q' = 0 \/ q' = 1 \/ q' = 2 := by omega
      . rfl
      . rfl
      . show (o2 ++ [y]).getD m 0 = o2.getD m 0
        exact zi5 (by omega)
theorem zuM {cl : List Int} {rows : List Row} {n V : Nat} (G : Ground cl rows n V) (z : Nat) : varC rows n z < (V : Int) := by
  unfold varC
  split
  . omega
  . rename_i h; exact (G.vars _ (zuK (by omega)) _).2
theorem zrE {cl : List Int} {rows : List Row} {n z : Nat} (h : varC rows n z < 0) : kC cl rows n z = -1 := by unfold kC; rw [if_pos h]
theorem zrF {cl : List Int} {rows : List Row} {n z : Nat} (h : ¬ varC rows n z < 0) : kC cl rows n z = cl.getD (varC rows n z).toNat 0 := by unfold kC; rw [if_neg h]
theorem znM {N L V x : Nat} {A : Int -> Int -> Int -> Int -> Int -> (List Row) -> (List Pr) -> (List Int) -> (List Int) -> (List Int) -> (List Int) -> (List Int) -> (List Int) -> (List Int) -> Option ((List Int × List Int × List Int × Unit) × Int × Unit)} {c0 v1 : Int} {rows : List Row} {S : List Pr} {cl x4 x5 x6 o0 o1 o2 : List Int}
    (G : Ground cl rows (2 ^ L) V) (h6 : L <= 6) (hx : x < 3 * 2 ^ L) (hl : LenP (2 ^ L) x o0 o1 o2) :
    ∀ (m d f : Nat), d + m = 3 * 2 ^ L -> 1 <= d -> (∀ e, 1 <= e -> e < d -> kC cl rows (2 ^ L) ((x + e) % (3 * 2 ^ L)) ≠ kC cl rows (2 ^ L) x) -> m < f ->
    ∃ y : Nat, zcg (kC cl rows (2 ^ L)) (3 * 2 ^ L) x y /\ zd3 N A f (L : Int) ((2 ^ L : Nat) : Int) (x : Int) (varC rows (2 ^ L) x) (x : Int) (d : Int) c0 v1 rows S cl x4 x5 x6 o0 o1 o2 =
      A (L : Int) ((2 ^ L : Nat) : Int) ((x + 1 : Nat) : Int) c0 v1 rows S cl x4 x5 x6 (ap 0 (x / 2 ^ L) (y : Int) o0) (ap 1 (x / 2 ^ L) (y : Int) o1) (ap 2 (x / 2 ^ L) (y : Int) o2) := by
  have hp := zbN L
  have hle := zbM h6
  have hq : x / 2 ^ L < 3 := Nat.div_lt_of_lt_mul (by omega)
  have hqd : x / 2 ^ L <= x := Nat.div_le_self _ _
  obtain ⟨l0, l1, l2⟩ := hl
  have w3 : wr (3 * ((2 ^ L : Nat) : Int)) = ((3 * 2 ^ L : Nat) : Int) := by rw [zaX (by omega) (by omega)]; omega
  have a0 : eqI ((2 ^ L : Nat) : Int) 0 = false := zaQ (by omega)
  have a1 : eqI ((3 * 2 ^ L : Nat) : Int) 0 = false := zaQ (by omega)
  have a2 : wr (Int.tdiv (x : Int) ((2 ^ L : Nat) : Int)) = ((x / 2 ^ L : Nat) : Int) := by rw [zbU, zuL (Nat.lt_of_le_of_lt hqd (by omega))]
  have a3 : wr ((x : Int) + 1) = ((x + 1 : Nat) : Int) := zat (by omega)
  have b0 : ∀ y : Int, leN ((o0.length + [y].length) * 8) 140737488355328 = true := fun y => zaG (by simp; omega)
  have b1 : ∀ y : Int, leN ((o1.length + [y].length) * 8) 140737488355328 = true := fun y => zaG (by simp; omega)
  have b2 : ∀ y : Int, leN ((o2.length + [y].length) * 8) 140737488355328 = true := fun y => zaG (by simp; omega)
  intro m
  induction m with
  | zero =>
    intro d f hd h1 hno hf
    obtain ⟨f, rfl⟩ : ∃ g, f = g + 1 := ⟨f - 1, by omega⟩
    refine ⟨x, ?_, ?_⟩
    . by_cases hk : kC cl rows (2 ^ L) x < 0
      . exact .inl ⟨hk, rfl⟩
      . refine .inr ⟨by omega, 3 * 2 ^ L, by omega, Nat.le_refl _, ?_, rfl, fun e he1 he2 => hno e he1 (by omega)⟩
        rw [Nat.add_mod_right, Nat.mod_eq_of_lt hx]
    . rw [zdn]
      unfold zd2
      rw [w3, zab (by omega), cond_false]
      simp only [a0, a2, a3, b0, b1, b2, Bool.not_false, mst2]
      obtain ⟨q, hqq⟩ : ∃ q, x / 2 ^ L = q := ⟨_, rfl⟩
      rw [hqq] at hq
      rw [hqq]
      obtain rfl | rfl | rfl : q = 0 \/ q = 1 \/ q = 2 := by omega
      . rfl
      . rfl
      . rfl
  | succ m ih =>
    intro d f hd h1 hno hf
    obtain ⟨f, rfl⟩ : ∃ g, f = g + 1 := ⟨f - 1, by omega⟩
    have a4 : wr ((x : Int) + (d : Int)) = ((x + d : Nat) : Int) := by rw [zaX (by omega) (by omega)]; omega
    have a5 : wr ((d : Int) + 1) = ((d + 1 : Nat) : Int) := zat (by omega)
    have hmod : (x + d) % (3 * 2 ^ L) < 3 * 2 ^ L := Nat.mod_lt _ (by omega)
    by_cases hv : varC rows (2 ^ L) x < 0
    . refine ⟨x, .inl ⟨by rw [zrE hv]; omega, rfl⟩, ?_⟩
      rw [zdn]
      unfold zd2
      rw [w3, zaa (by omega : (d : Int) < ((3 * 2 ^ L : Nat) : Int)), cond_true, zap (by omega), cond_false]
      simp only [a0, a2, a3, b0, b1, b2, Bool.not_false, mst2]
      obtain ⟨q, hqq⟩ : ∃ q, x / 2 ^ L = q := ⟨_, rfl⟩
      rw [hqq] at hq
      rw [hqq]
      obtain rfl | rfl | rfl : q = 0 \/ q = 1 \/ q = 2 := by omega
      . rfl
      . rfl
      . rfl
    . have hvk := zrF (cl := cl) hv
      have vV := zuM G x
      obtain ⟨v, hvn⟩ : ∃ v : Nat, varC rows (2 ^ L) x = (v : Int) := ⟨(varC rows (2 ^ L) x).toNat, by omega⟩
      have hk0 : 0 <= kC cl rows (2 ^ L) x := by
        obtain ⟨c, _, hc⟩ := G.cc v (by omega)
        rw [hvk, hvn, Int.toNat_natCast, hc]; omega
      have hgo : ∀ f', m < f' -> kC cl rows (2 ^ L) ((x + d) % (3 * 2 ^ L)) ≠ kC cl rows (2 ^ L) x -> ∃ y : Nat, zcg (kC cl rows (2 ^ L)) (3 * 2 ^ L) x y /\ zd3 N A f' (L : Int) ((2 ^ L : Nat) : Int) (x : Int) (varC rows (2 ^ L) x) (x : Int) ((d + 1 : Nat) : Int) c0 v1 rows S cl x4 x5 x6 o0 o1 o2 =
          A (L : Int) ((2 ^ L : Nat) : Int) ((x + 1 : Nat) : Int) c0 v1 rows S cl x4 x5 x6 (ap 0 (x / 2 ^ L) (y : Int) o0) (ap 1 (x / 2 ^ L) (y : Int) o1) (ap 2 (x / 2 ^ L) (y : Int) o2) := by
        intro f' hf' hne
        refine ih (d + 1) f' (by omega) (by omega) (fun e he1 he2 => ?_) hf'
        by_cases hed : e = d
        . rw [hed]; exact hne
        . exact hno e he1 (by omega)
      rw [zdn]
      unfold zd2
      rw [w3, zaa (by omega : (d : Int) < ((3 * 2 ^ L : Nat) : Int)), cond_true, zaJ (by omega), cond_true, a1, a4, ziW, zrD c0 v1 rows S h6 hmod]
      simp only [bsm, Bool.not_false, mst2]
      by_cases hu : varC rows (2 ^ L) ((x + d) % (3 * 2 ^ L)) < 0
      . rw [zap (by omega), cond_false, a5]
        exact hgo f (by omega) (by rw [zrE hu]; omega)
      . have huk := zrF (cl := cl) hu
        have uV := zuM G ((x + d) % (3 * 2 ^ L))
        rw [zaJ (by omega), cond_true, G.lc, zaa uV, zaa vV, ← huk, ← hvk]
        simp only [Bool.and_self, mst2]
        by_cases he : kC cl rows (2 ^ L) ((x + d) % (3 * 2 ^ L)) = kC cl rows (2 ^ L) x
        . rw [zaV he, cond_true]
          refine ⟨(x + d) % (3 * 2 ^ L), .inr ⟨hk0, d, h1, by omega, rfl, he, hno⟩, ?_⟩
          simp only [a0, a2, a3, b0, b1, b2, Bool.not_false, mst2]
          obtain ⟨q, hqq⟩ : ∃ q, x / 2 ^ L = q := ⟨_, rfl⟩
          rw [hqq] at hq
          rw [hqq]
          obtain rfl | rfl | rfl : q = 0 \/ q = 1 \/ q = 2 := by omega
          . rfl
          . rfl
          . rfl
        . rw [zaQ he, cond_false, a5]
          exact hgo f (by omega) he
theorem zrG {N L V : Nat} {c0 v1 : Int} {rows : List Row} {S : List Pr} {cl x4 x5 x6 : List Int} (hN : 2000 <= N)
    (G : Ground cl rows (2 ^ L) V) (h6 : L <= 6) : ∀ (k x f : Nat) (o0 o1 o2 : List Int), x + k = 3 * 2 ^ L -> k < f -> LenP (2 ^ L) x o0 o1 o2 ->
    (∀ z, z < x -> ∃ u : Nat, oG (2 ^ L) o0 o1 o2 z = (u : Int) /\ zcg (kC cl rows (2 ^ L)) (3 * 2 ^ L) z u) ->
    ∃ p0 p1 p2, zgU N f (L : Int) ((2 ^ L : Nat) : Int) (x : Int) c0 v1 rows S cl x4 x5 x6 o0 o1 o2 = some ((p0, p1, p2, ()), 0, ()) /\ LenP (2 ^ L) (3 * 2 ^ L) p0 p1 p2 /\
      ∀ z, z < 3 * 2 ^ L -> ∃ u : Nat, oG (2 ^ L) p0 p1 p2 z = (u : Int) /\ zcg (kC cl rows (2 ^ L)) (3 * 2 ^ L) z u := by
  have hp := zbN L
  have hle := zbM h6
  have w3 : wr (3 * ((2 ^ L : Nat) : Int)) = ((3 * 2 ^ L : Nat) : Int) := by rw [zaX (by omega) (by omega)]; omega
  intro k
  induction k with
  | zero =>
    intro x f o0 o1 o2 hk hf hl hz
    obtain ⟨f, rfl⟩ : ∃ g, f = g + 1 := ⟨f - 1, by omega⟩
    obtain rfl : x = 3 * 2 ^ L := by omega
    refine ⟨o0, o1, o2, ?_, hl, hz⟩
    rw [zgV]
    unfold zib
    rw [w3, zab (by omega), cond_false]
  | succ k ih =>
    intro x f o0 o1 o2 hk hf hl hz
    obtain ⟨f, rfl⟩ : ∃ g, f = g + 1 := ⟨f - 1, by omega⟩
    have hx : x < 3 * 2 ^ L := by omega
    obtain ⟨y, hy, e⟩ := znM (N := N) (A := zgU N f) (c0 := c0) (v1 := v1) (S := S) (x4 := x4) (x5 := x5) (x6 := x6) G h6 hx hl (3 * 2 ^ L - 1) 1 N (by omega) (by omega) (fun e h1 h2 => by omega) (by omega)
    obtain ⟨p0, p1, p2, e2, h2, h3⟩ := ih (x + 1) f _ _ _ (by omega) (by omega) (hl.ap (y := (y : Int)) hx) (fun z hzx => by
      rw [zBT hl hx z (by omega)]
      by_cases ez : z = x
      . rw [if_pos ez, ez]; exact ⟨y, rfl, hy⟩
      . rw [if_neg ez]; exact hz z (by omega))
    refine ⟨p0, p1, p2, ?_, h2, h3⟩
    rw [zgV]
    unfold zib
    rw [w3, zaa (by omega : (x : Int) < ((3 * 2 ^ L : Nat) : Int)), cond_true, zrD c0 v1 rows S h6 hx]
    simp only [bsm]
    exact e.trans e2
theorem ztW {k : Nat -> Int} {n : Nat} {a0 a1 a2 b0 b1 b2 : List Int} (hn : 0 < n) (ha : Len3 n 2 a0 a1 a2) (hb : LenP n (3 * n) b0 b1 b2)
    (fa : ∀ z, z < 3 * n -> ∃ u : Nat, oG n a0 a1 a2 z = (u : Int) /\ zcg k (3 * n) z u) (fb : ∀ z, z < 3 * n -> ∃ u : Nat, oG n b0 b1 b2 z = (u : Int) /\ zcg k (3 * n) z u) : a0 = b0 /\ a1 = b1 /\ a2 = b2 := by
  have he : ∀ z, z < 3 * n -> oG n a0 a1 a2 z = oG n b0 b1 b2 z := fun z hz => by
    obtain ⟨u, e1, h1⟩ := fa z hz
    obtain ⟨w, e2, h2⟩ := fb z hz
    rw [e1, e2, zhd h1 h2]
  have ext : ∀ a b : List Int, a.length = n -> b.length = n -> (∀ i, i < n -> a.getD i 0 = b.getD i 0) -> a = b := by
    intro a b h1 h2 h
    refine List.ext_getElem (h1.trans h2.symm) fun i i1 i2 => ?_
    have := h i (by omega)
    simpa [List.getD_eq_getElem?_getD, List.getElem?_eq_getElem i1, List.getElem?_eq_getElem i2] using this
  obtain ⟨h0, h1, h2⟩ := ha
  obtain ⟨g0, g1, g2⟩ := hb
  refine ⟨ext _ _ h0 (by omega) fun i hi => ?_, ext _ _ (h1 (by omega)) (by omega) fun i hi => ?_, ext _ _ (h2 (by omega)) (by omega) fun i hi => ?_⟩
  . have := he (0 * n + i) (by omega)
    obtain ⟨c1, c2⟩ := cell (j := 0) hi
    unfold oG at this
    rw [c1, c2] at this
    exact this
  . have := he (1 * n + i) (by omega)
    obtain ⟨c1, c2⟩ := cell (j := 1) hi
    unfold oG at this
    rw [c1, c2] at this
    exact this
  . have := he (2 * n + i) (by omega)
    obtain ⟨c1, c2⟩ := cell (j := 2) hi
    unfold oG at this
    rw [c1, c2] at this
    exact this
end
section
theorem zrH {c0 : Int} {V L : Nat} {rows : List Row} {S : List Pr} {cl : List Int} (hg : GoodCirc c0 (V : Int) rows S) (hc : GoodC S V cl) (h6 : L <= 6) (hr : rows.length <= 2 ^ L) : Ground cl rows (2 ^ L) V :=
  ⟨zbN L, zbM h6, hr, hc.len, fun v hv => ⟨(cl.getD v 0).toNat, by have := hc.nn v hv; have := hc.le v hv; omega, by have := hc.nn v hv; omega⟩, fun r hr j => hg.vars hr j⟩
theorem zwR {N : Nat} {log : Int} (h : ¬ (1 <= log /\ log <= 6)) : q204 N log = some (false, ()) := by
  unfold q204
  by_cases h1 : 1 <= log
  . rw [zaJ h1, cond_true, zap (by omega)]
  . rw [zap h1, cond_false]
theorem ztX {N : Nat} (hN : 100000 <= N) {c0 : Int} {V : Nat} {rows : List Row} {S : List Pr} (hg : GoodCirc c0 (V : Int) rows S) (log : Int) :
    ∃ r, q131 N c0 (V : Int) rows S log = some r /\ q132 N c0 (V : Int) rows S log = some r /\ (r = (([], [], [], ()), 1, ()) \/ ∃ L : Nat, log = (L : Int) /\ 1 <= L /\ L <= 6 /\ rows.length <= 2 ^ L /\ r.2.1 = 0 /\ Len3 (2 ^ L) 2 r.1.1 r.1.2.1 r.1.2.2.1 /\ ∃ cl, q134 N c0 (V : Int) rows S = some (cl, ()) /\
      ∀ z, z < 3 * 2 ^ L -> ∃ u : Nat, oG (2 ^ L) r.1.1 r.1.2.1 r.1.2.2.1 z = (u : Int) /\ zcg (kC cl rows (2 ^ L)) (3 * 2 ^ L) z u) := by
  by_cases hlog : 1 <= log /\ log <= 6
  case neg =>
    refine ⟨(([], [], [], ()), 1, ()), ?_, ?_, .inl rfl⟩
    . unfold q131
      rw [zwR hlog]
      rfl
    . unfold q132
      by_cases h1 : log < 1
      . rw [zaa h1, cond_true]
      . rw [zab h1, cond_false, zaa (by omega), cond_true]
  obtain ⟨L, rfl⟩ : ∃ L : Nat, log = (L : Int) := ⟨log.toNat, by omega⟩
  have h1 : 1 <= L := by omega
  have h6 : L <= 6 := by omega
  have hV := hg.v200
  have hp := zbN L
  have hle := zbM h6
  by_cases hr : 2 ^ L < rows.length
  . refine ⟨(([], [], [], ()), 1, ()), ?_, ?_, .inl rfl⟩
    . unfold q131
      rw [zlK N h1 h6]
      simp only [bsm]
      rw [Bool.not_true, cond_false, sh1 h6, zaa (by omega), cond_true]
    . unfold q132
      rw [zab (by omega), cond_false, zab (by omega), cond_false, zaf, zaa (by omega : (L : Int) < 18446744073709551616), sh1' h6, zaa (by omega), cond_true, mst2, mst2]
  have hm : q119 N c0 (V : Int) rows S = some (0, ()) := by
    rw [zrz (by omega) c0 (V : Int) rows S (by have := hg.rows; omega) (by have := hg.same; omega), hg.may]
  have hS := hg.pairs (V := V) rfl
  obtain ⟨cl, e4, e5, gc, fc⟩ := zia (c0 := c0) (v2 := rows) hS (by have := hg.same; omega) (by omega) hN hm
  have G := zrH hg gc h6 (by omega)
  obtain ⟨fi, r8, fl, fm⟩ := zj2 (N := N) (n6 := ((2 ^ L : Nat) : Int)) (c0 := c0) (v1 := (V : Int)) (rows := rows) (S := S) (cl := cl) (la := List.replicate V 0) (x := []) (y := []) (z := []) (o0 := []) (o1 := []) (o2 := []) (V := V) (by omega) V 0 N (List.replicate V 0) (ze5 V) (fun i hi => absurd hi (by omega)) (by omega) (by omega)
  have I0 : PInv (kC cl rows (2 ^ L)) V (2 ^ L) 0 fi (List.replicate V 0) (fun _ => 0) :=
    ⟨fl, ze5 V, fun c hc => .inl ⟨fm c hc, fun z hz => absurd hz (by omega)⟩, fun z hz => absurd hz (by omega)⟩
  obtain ⟨n, rfl⟩ : ∃ n, N = n + 4 := ⟨N - 4, by omega⟩
  obtain ⟨p0, p1, p2, r13, l3, f3⟩ := zlU (N := n + 4) (c0 := c0) (v1 := (V : Int)) (S := S) (x := []) (y := []) (z := []) (by omega) G I0 n
  obtain ⟨s0, s1, s2, r7, m3, g3⟩ := zrG (N := n + 4) (c0 := c0) (v1 := (V : Int)) (S := S) (x4 := []) (x5 := []) (x6 := []) (by omega) G h6 (3 * 2 ^ L) 0 (n + 4) [] [] [] (by omega) (by omega) ⟨by simp, by simp, by simp⟩ (fun z hz => absurd hz (by omega))
  obtain ⟨rfl, rfl, rfl⟩ := ztW hp l3 m3 f3 g3
  refine ⟨((p0, p1, p2, ()), 0, ()), ?_, ?_, .inr ⟨L, rfl, h1, h6, by omega, rfl, l3, cl, e4, f3⟩⟩
  . unfold q131
    rw [zlK (n + 4) h1 h6]
    simp only [bsm]
    rw [Bool.not_true, cond_false, sh1 h6, zab (by omega), cond_false, hm]
    simp only [bsm]
    rw [zaV rfl, Bool.not_true, cond_false, e4]
    simp only [bsm]
    rw [zaf, zaV rfl, Int.toNat_natCast, zaG (by omega), show (true && (true && true)) = true from rfl, mst2, mst2, ze5]
    exact r8.trans r13
  . unfold q132
    rw [zab (by omega), cond_false, zab (by omega), cond_false, zaf, zaa (by omega : (L : Int) < 18446744073709551616), sh1' h6, zab (by omega), cond_false, mst2, mst2, mst2, mst2, e5]
    simp only [bsm]
    exact r7
theorem zmQ {N : Nat} (a : List Int) (hb : a.length < 1000000) : ∀ (k i f : Nat), i + k = a.length -> k < f -> zh7 N f a a (i : Int) = some (true, ())
  | 0, i, f + 1, hk, hf => by
    rw [zgR]
    unfold zh6
    rw [zab (by omega), cond_false]
  | k + 1, i, f + 1, hk, hf => by
    rw [zgR]
    unfold zh6
    rw [zaa (by omega : (i : Int) < (a.length : Int)), cond_true, zaf, zat (by omega), Int.toNat_natCast, zaV rfl]
    simp only [Bool.and_self, mst2, Bool.not_true, cond_false]
    exact zmQ a hb k (i + 1) f (by omega) (by omega)
theorem zeE {N : Nat} (hN : 2000 <= N) (a : List Int) (ha : a.length < 2000) : q133 N a a = some (true, ()) := by
  unfold q133
  rw [zaV rfl, Bool.not_true, cond_false]
  exact zmQ a (by omega) a.length 0 N (by omega) (by omega)
theorem zBU : q134 100000 0 2 [bRow] [Pr.mk 1 0] = some ([0, 0], ()) := by kernel_rfl
theorem zBV : q131 100000 0 2 [bRow] [Pr.mk 1 0] 1 = some (([4, 1], [2, 3], [0, 5], ()), 0, ()) := by kernel_rfl
instance : Big 100000 := ⟨by omega⟩
theorem zwS : q128 100000 = some (true, ()) := by
  have h : q136 100000 1 0 = some (nm 1 0, 0, ()) := zwE (L := 1) (x := 0) (by omega) (by omega) (by omega)
  unfold q128
  refine (congrArg (fun o => Option.bind o _) zBU).trans ?_
  simp only [bsm]
  refine (congrArg (fun o => Option.bind o _) zBV).trans ?_
  simp only [bsm]
  rw [h, nm10]
  simp only [bsm]
  rfl
end
section
def numN (l : List UInt8) (n : Nat) : Nat := cond (Nat.ble l.length n) n (n + 1)
def numX (l : List UInt8) (n m : Nat) : Nat := cond (Nat.ble l.length n) 0 ((l.getD n 0).toNat % m)
theorem zd5 (l : List UInt8) (n : Nat) {m : Nat} (h : 0 < m) : numX l n m < m := by
  unfold numX
  cases Nat.ble l.length n with
  | true => exact h
  | false => exact Nat.mod_lt _ h
theorem zd6 (l : List UInt8) (n : Nat) : numN l n <= n + 1 := by
  unfold numN
  cases Nat.ble l.length n <;> simp
theorem zd7 {N n m : Nat} {l : List UInt8} (hm : 0 < m) (hn : n < 1000000) : q186 N (n : Int) l (m : Int) = some ((((numN l n : Nat) : Int), ()), ((numX l n m : Nat) : Int), ()) := by
  unfold q186 numN numX
  cases h : Nat.ble l.length n with
  | true =>
    have h1 := Nat.le_of_ble_eq_true h
    rw [zaJ (by omega), cond_true]
    rfl
  | false =>
    have h1 : n < l.length := by
      rcases Nat.lt_or_ge n l.length with h2 | h2
      . exact h2
      . rw [Nat.ble_eq_true_of_le h2] at h; cases h
    rw [zap (by omega), cond_false, zat (by omega)]
    have e : wr (((n + 1 : Nat) : Int) - 1) = (n : Int) := by rw [show (((n + 1 : Nat) : Int) - 1) = (n : Int) by omega]; exact zaX (by omega) (by omega)
    rw [e, zaJ (by omega), zaa (by omega), zaQ (by omega), Int.toNat_natCast]
    rfl
theorem zj3 {N : Nat} (hN : 10 < N) {q : Fr} (h : Sc q) : q69 N q = some (true, ()) := by rw [zzq hN]; unfold Sc at h; rw [decide_eq_true h]
theorem l196 (N M : Nat) (hN : 10 < N) (V : Int) (s : Stp) (h0 : Sc s.q0) (h1 : Sc s.q1) (h2 : Sc s.q2) (h3 : Sc s.q3) (h4 : Sc s.q4) : zgW N (M + 6) V 0 s = zbj N (zgW N M) V 5 s := by
  have s0 : ∀ A, zbj N A V 0 s = A V 1 s := fun A => by unfold zbj; rw [zj3 hN h0]; kernel_rfl
  have s1 : ∀ A, zbj N A V 1 s = A V 2 s := fun A => by unfold zbj; rw [zj3 hN h1]; kernel_rfl
  have s2 : ∀ A, zbj N A V 2 s = A V 3 s := fun A => by unfold zbj; rw [zj3 hN h2]; kernel_rfl
  have s3 : ∀ A, zbj N A V 3 s = A V 4 s := fun A => by unfold zbj; rw [zj3 hN h3]; kernel_rfl
  have s4 : ∀ A, zbj N A V 4 s = A V 5 s := fun A => by unfold zbj; rw [zj3 hN h4]; kernel_rfl
  rw [zbQ, s0, zbQ, s1, zbQ, s2, zbQ, s3, zbQ, s4, zbQ]
def okV (kd V v : Int) : Prop := v < V /\ (0 <= v \/ kd = 2)
theorem zBW (N M : Nat) (V : Int) (s : Stp) (f0 f1 f2 : Bool) (h0 : f0 = true -> okV s.kind V s.v0) (h1 : f1 = true -> okV s.kind V s.v1) (h2 : f2 = true -> okV s.kind V s.v2) : zaZ N (M + 4) V 0 s [f0, f1, f2] = some (0, ()) := by
  have key : ∀ (v : Int) (X : Option (Int × Unit)), okV s.kind V v -> cond (leI V v) (some ((10 : Int), ())) (cond (ltI v 0) (cond (!eqI s.kind 2) (some ((10 : Int), ())) X) X) = X := fun v X ⟨a, b⟩ => by
    rw [zap (by omega), cond_false]
    by_cases hv : v < 0
    . rw [zaa hv, cond_true, zaV (by omega), Bool.not_true, cond_false]
    . rw [zab (by omega), cond_false]
  have s0 : ∀ A, zbP N A V 0 s [f0, f1, f2] = A V 1 s [f0, f1, f2] := fun A => by
    have e : zbP N A V 0 s [f0, f1, f2] = cond f0 (cond (leI V s.v0) (some ((10 : Int), ())) (cond (ltI s.v0 0) (cond (!eqI s.kind 2) (some ((10 : Int), ())) (A V 1 s [f0, f1, f2])) (A V 1 s [f0, f1, f2]))) (A V 1 s [f0, f1, f2]) := by unfold zbP; kernel_rfl
    rw [e]
    cases f0 with
    | false => rfl
    | true => rw [cond_true, key _ _ (h0 rfl)]
  have s1 : ∀ A, zbP N A V 1 s [f0, f1, f2] = A V 2 s [f0, f1, f2] := fun A => by
    have e : zbP N A V 1 s [f0, f1, f2] = cond f1 (cond (leI V s.v1) (some ((10 : Int), ())) (cond (ltI s.v1 0) (cond (!eqI s.kind 2) (some ((10 : Int), ())) (A V 2 s [f0, f1, f2])) (A V 2 s [f0, f1, f2]))) (A V 2 s [f0, f1, f2]) := by unfold zbP; kernel_rfl
    rw [e]
    cases f1 with
    | false => rfl
    | true => rw [cond_true, key _ _ (h1 rfl)]
  have s2 : ∀ A, zbP N A V 2 s [f0, f1, f2] = A V 3 s [f0, f1, f2] := fun A => by
    have e : zbP N A V 2 s [f0, f1, f2] = cond f2 (cond (leI V s.v2) (some ((10 : Int), ())) (cond (ltI s.v2 0) (cond (!eqI s.kind 2) (some ((10 : Int), ())) (A V 3 s [f0, f1, f2])) (A V 3 s [f0, f1, f2]))) (A V 3 s [f0, f1, f2]) := by unfold zbP; kernel_rfl
    rw [e]
    cases f2 with
    | false => rfl
    | true => rw [cond_true, key _ _ (h2 rfl)]
  rw [zcj, s0, zcj, s1, zcj, s2, zcj]
  rfl
def ScS (s : Stp) : Prop := Sc s.q0 /\ Sc s.q1 /\ Sc s.q2 /\ Sc s.q3 /\ Sc s.q4
def okS (V : Int) (s : Stp) : Prop := (1 <= s.kind /\ s.kind <= 7) /\ ScS s /\ (1 < s.kind -> okV s.kind V s.v0) /\ (s.kind = 2 \/ s.kind = 5 \/ s.kind = 6 -> okV s.kind V s.v1) /\ (s.kind = 2 \/ s.kind = 4 \/ s.kind = 5 -> okV s.kind V s.v2)
theorem zwT {N : Nat} (hN : 100 <= N) {V : Int} {s : Stp} (h : okS V s) : q196 N s V = some (0, ()) := by
  obtain ⟨⟨k1, k2⟩, ⟨a0, a1, a2, a3, a4⟩, b0, b1, b2⟩ := h
  obtain ⟨M, rfl⟩ : ∃ M, N = M + 6 := ⟨N - 6, by omega⟩
  unfold q196
  rw [zab (by omega), cond_false, zab (by omega), cond_false, l196 _ M (by omega) V s a0 a1 a2 a3 a4]
  obtain ⟨k, v0, v1, v2, q0, q1, q2, q3, q4⟩ := s
  simp only at k1 k2 b0 b1 b2
  have go : ∀ f0 f1 f2, (f0 = true -> okV k V v0) -> (f1 = true -> okV k V v1) -> (f2 = true -> okV k V v2) -> zaZ (M + 6) (M + 6) V 0 ⟨k, v0, v1, v2, q0, q1, q2, q3, q4⟩ [f0, f1, f2] = some (0, ()) := fun f0 f1 f2 h0 h1 h2 => zBW (M + 6) (M + 2) V _ f0 f1 f2 h0 h1 h2
  have hk : k = 1 \/ k = 2 \/ k = 3 \/ k = 4 \/ k = 5 \/ k = 6 \/ k = 7 := by omega
  rcases hk with rfl | rfl | rfl | rfl | rfl | rfl | rfl
  . exact (show _ = zaZ (M + 6) (M + 6) V 0 ⟨1, v0, v1, v2, q0, q1, q2, q3, q4⟩ [false, false, false] by unfold zbj; kernel_rfl).trans (go _ _ _ (fun h => by cases h) (fun h => by cases h) (fun h => by cases h))
  . exact (show _ = zaZ (M + 6) (M + 6) V 0 ⟨2, v0, v1, v2, q0, q1, q2, q3, q4⟩ [true, true, true] by unfold zbj; kernel_rfl).trans (go _ _ _ (fun _ => b0 (by omega)) (fun _ => b1 (by omega)) (fun _ => b2 (by omega)))
  . exact (show _ = zaZ (M + 6) (M + 6) V 0 ⟨3, v0, v1, v2, q0, q1, q2, q3, q4⟩ [true, false, false] by unfold zbj; kernel_rfl).trans (go _ _ _ (fun _ => b0 (by omega)) (fun h => by cases h) (fun h => by cases h))
  . exact (show _ = zaZ (M + 6) (M + 6) V 0 ⟨4, v0, v1, v2, q0, q1, q2, q3, q4⟩ [true, false, true] by unfold zbj; kernel_rfl).trans (go _ _ _ (fun _ => b0 (by omega)) (fun h => by cases h) (fun _ => b2 (by omega)))
  . exact (show _ = zaZ (M + 6) (M + 6) V 0 ⟨5, v0, v1, v2, q0, q1, q2, q3, q4⟩ [true, true, true] by unfold zbj; kernel_rfl).trans (go _ _ _ (fun _ => b0 (by omega)) (fun _ => b1 (by omega)) (fun _ => b2 (by omega)))
  . exact (show _ = zaZ (M + 6) (M + 6) V 0 ⟨6, v0, v1, v2, q0, q1, q2, q3, q4⟩ [true, true, false] by unfold zbj; kernel_rfl).trans (go _ _ _ (fun _ => b0 (by omega)) (fun _ => b1 (by omega)) (fun h => by cases h))
  . exact (show _ = zaZ (M + 6) (M + 6) V 0 ⟨7, v0, v1, v2, q0, q1, q2, q3, q4⟩ [true, false, false] by unfold zbj; kernel_rfl).trans (go _ _ _ (fun _ => b0 (by omega)) (fun h => by cases h) (fun h => by cases h))
def one1 : Fr := ⟨1, 0, 0, 0⟩
def zb1 (s : Stp) : List Row :=
  cond (eqI s.kind 2) [⟨s.q0, s.q1, s.q2, s.q3, s.q4, .zero, .zero, .zero, mxI s.v0 (-1), mxI s.v1 (-1), mxI s.v2 (-1)⟩]
    (cond (eqI s.kind 3) [⟨.zero, .zero, .zero, .zero, .zero, one1, .zero, .zero, s.v0, -1, -1⟩]
      (cond (eqI s.kind 4) [⟨.zero, .zero, .zero, .zero, .zero, .zero, one1, .zero, s.v0, -1, s.v2⟩]
        (cond (eqI s.kind 5) [⟨.zero, .zero, .zero, .zero, .zero, .zero, .zero, one1, s.v0, s.v1, -1⟩, ⟨.zero, .zero, .zero, .zero, .zero, .zero, .zero, .zero, s.v2, -1, -1⟩]
          (cond (eqI s.kind 7) [zdo s.v0] []))))
theorem zzU (M : Nat) (v0 v1 v2 : Int) (q0 q1 q2 q3 q4 : Fr) : q197 (M + 8) ⟨1, v0, v1, v2, q0, q1, q2, q3, q4⟩ = some (zb1 ⟨1, v0, v1, v2, q0, q1, q2, q3, q4⟩, 0, ()) := by kernel_rfl
theorem zzV (M : Nat) (v0 v1 v2 : Int) (q0 q1 q2 q3 q4 : Fr) : q197 (M + 8) ⟨2, v0, v1, v2, q0, q1, q2, q3, q4⟩ = some (zb1 ⟨2, v0, v1, v2, q0, q1, q2, q3, q4⟩, 0, ()) := by kernel_rfl
theorem zzW (M : Nat) (v0 v1 v2 : Int) (q0 q1 q2 q3 q4 : Fr) : q197 (M + 8) ⟨3, v0, v1, v2, q0, q1, q2, q3, q4⟩ = some (zb1 ⟨3, v0, v1, v2, q0, q1, q2, q3, q4⟩, 0, ()) := by kernel_rfl
theorem zzX (M : Nat) (v0 v1 v2 : Int) (q0 q1 q2 q3 q4 : Fr) : q197 (M + 8) ⟨4, v0, v1, v2, q0, q1, q2, q3, q4⟩ = some (zb1 ⟨4, v0, v1, v2, q0, q1, q2, q3, q4⟩, 0, ()) := by kernel_rfl
theorem zzY (M : Nat) (v0 v1 v2 : Int) (q0 q1 q2 q3 q4 : Fr) : q197 (M + 8) ⟨5, v0, v1, v2, q0, q1, q2, q3, q4⟩ = some (zb1 ⟨5, v0, v1, v2, q0, q1, q2, q3, q4⟩, 0, ()) := by kernel_rfl
theorem zzZ (M : Nat) (v0 v1 v2 : Int) (q0 q1 q2 q3 q4 : Fr) : q197 (M + 8) ⟨6, v0, v1, v2, q0, q1, q2, q3, q4⟩ = some (zb1 ⟨6, v0, v1, v2, q0, q1, q2, q3, q4⟩, 0, ()) := by kernel_rfl
theorem zz0 (M : Nat) (v0 v1 v2 : Int) (q0 q1 q2 q3 q4 : Fr) : q197 (M + 8) ⟨7, v0, v1, v2, q0, q1, q2, q3, q4⟩ = some (zb1 ⟨7, v0, v1, v2, q0, q1, q2, q3, q4⟩, 0, ()) := by kernel_rfl
theorem zwU {N : Nat} (hN : 100 <= N) {s : Stp} (h : 1 <= s.kind /\ s.kind <= 7) : q197 N s = some (zb1 s, 0, ()) := by
  obtain ⟨M, rfl⟩ : ∃ M, N = M + 8 := ⟨N - 8, by omega⟩
  obtain ⟨k, v0, v1, v2, q0, q1, q2, q3, q4⟩ := s
  simp only at h
  have hk : k = 1 \/ k = 2 \/ k = 3 \/ k = 4 \/ k = 5 \/ k = 6 \/ k = 7 := by omega
  rcases hk with rfl | rfl | rfl | rfl | rfl | rfl | rfl
  . exact zzU ..
  . exact zzV ..
  . exact zzW ..
  . exact zzX ..
  . exact zzY ..
  . exact zzZ ..
  . exact zz0 ..
theorem zwV {N : Nat} (hN : 100 <= N) {V : Nat} {pb rw : List Row} {sm : List Pr} {s : Stp} (h : okS (V : Int) s) (h1 : pb.length < 8) (h2 : pb.length + rw.length + (zb1 s).length <= 64) (h3 : sm.length < 200) (h4 : V < 200) :
    q115 N (V : Int) pb rw sm s = some (((cond (eqI s.kind 1) ((V + 1 : Nat) : Int) (V : Int), cond (eqI s.kind 7) (pb ++ zb1 s) pb, cond (eqI s.kind 7) rw (rw ++ zb1 s), cond (eqI s.kind 6) (sm ++ [⟨s.v0, s.v1⟩]) sm, ()), cond (eqI s.kind 1) (V : Int) 0, 0, ())) := by
  unfold q115
  rw [zwT hN h]
  simp only [bsm]
  rw [zaV rfl, Bool.not_true, cond_false, zwU hN h.1]
  simp only [bsm]
  have e1 : wr ((pb.length : Int) + (rw.length : Int)) = ((pb.length + rw.length : Nat) : Int) := by rw [zaX (by omega) (by omega)]; omega
  have e2 : wr (((pb.length + rw.length : Nat) : Int) + ((zb1 s).length : Int)) = ((pb.length + rw.length + (zb1 s).length : Nat) : Int) := by rw [zaX (by omega) (by omega)]; omega
  have e3 : wr (((V + 1 : Nat) : Int) - 1) = (V : Int) := by rw [zaX (by omega) (by omega)]; omega
  rw [e1, e2, zab (by omega), cond_false, zap (by omega), zap (by omega), zap (by omega), zat (by omega), e3]
  simp only [cond_false, Nat.zero_add, List.length_cons, List.length_nil]
  rw [zaG (by omega), zaG (by omega), zaG (by omega), zaG (by omega), zaG (by omega), zaG (by omega)]
  simp only [mst2]
  obtain ⟨k, v0, v1, v2, q0, q1, q2, q3, q4⟩ := s
  obtain ⟨⟨k1, k2⟩, _⟩ := h
  simp only at k1 k2
  have hk : k = 1 \/ k = 2 \/ k = 3 \/ k = 4 \/ k = 5 \/ k = 6 \/ k = 7 := by omega
  rcases hk with rfl | rfl | rfl | rfl | rfl | rfl | rfl
  . show _ = some ((((V + 1 : Nat) : Int), pb, rw ++ [], sm, ()), (V : Int), 0, ())
    rw [List.append_nil]
    rfl
  . rfl
  . rfl
  . rfl
  . rfl
  . show _ = some (((V : Int), pb, rw ++ ([] : List Row), sm ++ [Pr.mk v0 v1], ()), (0 : Int), (0 : Int), ())
    rw [List.append_nil]
    rfl
  . rfl
theorem zi6 {N : Nat} (hN : 100 <= N) {V : Nat} {pb rw : List Row} {sm : List Pr} {pv vs : List Fr} {st : List Stp} {s : Stp} (h : okS (V : Int) s) (h1 : pb.length < 8) (h2 : pb.length + rw.length + (zb1 s).length <= 64) (h3 : sm.length < 200) (h4 : V < 200)
    (h5 : st.length < 1000) (h6 : vs.length < 1000) (c : Fr) :
    q187 N 0 0 [] [] pv vs st (V : Int) pb rw sm s c = some ((0, 0, [], [], pv, cond (eqI s.kind 1) (vs ++ [c]) vs, st ++ [s], ()), (cond (eqI s.kind 1) ((V + 1 : Nat) : Int) (V : Int), cond (eqI s.kind 7) (pb ++ zb1 s) pb, cond (eqI s.kind 7) rw (rw ++ zb1 s), cond (eqI s.kind 6) (sm ++ [⟨s.v0, s.v1⟩]) sm, ()), cond (eqI s.kind 1) (V : Int) 0, ()) := by
  unfold q187
  rw [zwV hN h h1 h2 h3 h4]
  simp only [bsm]
  rw [zaV rfl, Bool.not_true, cond_false]
  simp only [List.length_cons, List.length_nil]
  rw [zaG (by omega), zaG (by omega)]
  simp only [mst2]
  cases eqI s.kind 1 <;> rfl
def svar : Stp := ⟨1, 0, 0, 0, .zero, .zero, .zero, .zero, .zero⟩
theorem zwW (V : Int) : okS V svar := ⟨⟨by decide, by decide⟩, ⟨zaD, zaD, zaD, zaD, zaD⟩, fun h => absurd h (by decide), fun h => absurd h (by decide), fun h => absurd h (by decide)⟩
theorem zlV {N : Nat} (hN : 100 <= N) {pb rw : List Row} {sm : List Pr} {pv vs : List Fr} {st : List Stp} (h1 : pb.length < 8) (h2 : pb.length + rw.length <= 64) (h3 : sm.length < 200) (h4 : vs.length < 200)
    (h5 : st.length < 1000) (c : Fr) :
    q185 N 0 0 [] [] pv vs st (vs.length : Int) pb rw sm c = some ((0, 0, [], [], pv, vs ++ [c], st ++ [svar], ()), (((vs.length + 1 : Nat) : Int), pb, rw, sm, ()), (vs.length : Int), ()) := by
  unfold q185
  rw [show Stp.mk 1 0 0 0 Fr.zero Fr.zero Fr.zero Fr.zero Fr.zero = svar from rfl, zi6 hN (zwW _) h1 (by rw [show (zb1 svar).length = 0 from rfl]; omega) h3 h4 h5 (by omega) c]
  simp only [bsm]
  show some ((0, 0, [], [], pv, vs ++ [c], st ++ [svar], ()), (((vs.length + 1 : Nat) : Int), pb, rw ++ [], sm, ()), (vs.length : Int), ()) = _
  rw [List.append_nil]
end
end Go.Proofs.Ytgimohchocjgcaa.V
