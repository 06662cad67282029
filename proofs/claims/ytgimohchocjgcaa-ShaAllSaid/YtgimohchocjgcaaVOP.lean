import Derived.Test.YtgimohchocjgcaaVUL
import Derived.Test.YtgimohchocjgcaaVSN
import Derived.KernelRfl
import Derived.Test.YtgimohchocjgcaaVME
import Derived.Test.YtgimohchocjgcaaVTM
import Derived.WalkKit
import Derived.ProofKit
import Derived.OpenShut
import Derived.Carry
import Derived.ChangeSlices
import Derived.Test.YtgimohchocjgcaaVRW
set_option linter.unusedVariables false
set_option linter.unusedSimpArgs false
namespace Go.Proofs.Ytgimohchocjgcaa.V
section
def zhH (N : Nat) (A_4 : (List UInt8) -> Nat -> Nat -> Int -> (List UInt8) -> Option ((List UInt8 × Nat) × Unit)) (b0 : List UInt8) (x3n x3c : Nat) (i4 : Int) (ob0 : List UInt8) : Option ((List UInt8 × Nat) × Unit) :=
  cond ((ltI i4 (↑x3n : Int))) (must (leI (0 : Int) i4 && ltI i4 (↑x3n : Int)) (A_4 b0 x3n x3c ((wr (i4 + (1 : Int)))) (setL ob0 ((0 : Nat) + Int.toNat i4) (229 : UInt8)))) (must (bndc none (some (↑b0.length : Int)) (↑x3n : Int) (↑x3c : Int) && ltN (0 : Nat) x3c) (must (leN x3c ob0.length && leN ob0.length x3c) (some (((ob0, Int.toNat (↑b0.length : Int)), ())))))
theorem zqM : zqt = zhH := by
  (repeat (apply funext; intro _))
  simp only [zqt, zhH, hide_eq]
def zkl (N n : Nat) (b0 : List UInt8) (x3n x3c : Nat) (i4 : Int) (ob0 : List UInt8) : Option ((List UInt8 × Nat) × Unit) :=
  zaj (fun A x => zhH N (fun b0 x3n x3c i4 ob0 => A ((b0, ((x3n, x3c), (i4, ()))), (ob0, ()))) x.1.1 x.1.2.1.1 x.1.2.1.2 x.1.2.2.1 x.2.1) n ((b0, ((x3n, x3c), (i4, ()))), (ob0, ()))
theorem zqN : zqu = zkl := by
  (repeat (apply funext; intro _))
  simp only [zqu, zkl, zqM]
theorem zcO (N n : Nat) (b0 : List UInt8) (x3n x3c : Nat) (i4 : Int) (ob0 : List UInt8) : zkl N (n + 1) b0 x3n x3c i4 ob0 = zhH N (zkl N n) b0 x3n x3c i4 ob0 := rfl
def q45 (N : Nat) (b0 : List UInt8) : Option ((List UInt8 × Nat) × Unit) :=
  must (leI (0 : Int) ((wr ((↑b0.length : Int) + (3 : Int)))) && (eqI ((wr ((↑b0.length : Int) + (3 : Int)))) ((wr ((↑b0.length : Int) + (3 : Int)))) && leN (Int.toNat ((wr ((↑b0.length : Int) + (3 : Int)))) * (1 : Nat)) (140737488355328 : Nat))) (zkl N N b0 (Int.toNat ((wr ((↑b0.length : Int) + (3 : Int))))) (Int.toNat ((wr ((↑b0.length : Int) + (3 : Int))))) ((↑b0.length : Int)) (zae (List.replicate (Int.toNat ((wr ((↑b0.length : Int) + (3 : Int))))) (0 : UInt8)) (0 : Nat) (List.take (Int.toNat ((wr ((↑b0.length : Int) + (3 : Int))))) b0)))
theorem ztI : p45 = q45 := by
  (repeat (apply funext; intro _))
  simp only [p45, q45, hide_eq, zqN]
def za1 (N : Nat) (A_5 : (List UInt8) -> Nat -> Nat -> Int -> (List UInt8) -> Option (Bool × Unit)) (b1 : List UInt8) (y5n y5c : Nat) (i6 : Int) (ob0 : List UInt8) : Option (Bool × Unit) :=
  cond ((ltI i6 ((wr ((↑b1.length : Int) + (3 : Int)))))) (must (leI (0 : Int) i6 && ltI i6 (↑y5n : Int)) (cond (!List.getD ob0 ((0 : Nat) + Int.toNat i6) (0 : UInt8) == (229 : UInt8)) (some ((false, ()))) (A_5 b1 y5n y5c ((wr (i6 + (1 : Int)))) ob0))) (some ((true, ())))
theorem zhI : zdR = za1 := by
  (repeat (apply funext; intro _))
  simp only [zdR, za1, hide_eq]
def zbF (N n : Nat) (b1 : List UInt8) (y5n y5c : Nat) (i6 : Int) (ob0 : List UInt8) : Option (Bool × Unit) :=
  zaj (fun A x => za1 N (fun b1 y5n y5c i6 ob0 => A ((b1, ((y5n, y5c), (i6, ()))), (ob0, ()))) x.1.1 x.1.2.1.1 x.1.2.1.2 x.1.2.2.1 x.2.1) n ((b1, ((y5n, y5c), (i6, ()))), (ob0, ()))
theorem zhJ : zdS = zbF := by
  (repeat (apply funext; intro _))
  simp only [zdS, zbF, zhI]
theorem zbg (N n : Nat) (b1 : List UInt8) (y5n y5c : Nat) (i6 : Int) (ob0 : List UInt8) : zbF N (n + 1) b1 y5n y5c i6 ob0 = za1 N (zbF N n) b1 y5n y5c i6 ob0 := rfl
def zdw (N : Nat) (x0 : List UInt8) (b1 : Nat) (v2 : List UInt8) : Option (Bool × Unit) :=
  must (bndc none (some (↑x0.length : Int)) (↑b1 : Int) (↑x0.length : Int) && ltN (0 : Nat) x0.length) (cond (!eqB (List.take b1 (List.drop (0 : Nat) x0)) v2) (some ((false, ()))) (cond ((ltI (↑(Int.toNat (↑x0.length : Int)) : Int) ((wr ((↑v2.length : Int) + (3 : Int)))))) (some ((false, ()))) (zbF N N v2 (Int.toNat (↑x0.length : Int)) x0.length ((↑v2.length : Int)) x0)))
theorem zkm : zek = zdw := by
  (repeat (apply funext; intro _))
  simp only [zek, zdw, hide_eq, zhJ]
def q4 (N : Nat) (b0 : List UInt8) (h1 : List UInt32) (c2 : List UInt8) : Option (Bool × Unit) :=
  must (Nat.beq h1.length (8 : Nat)) (must (Nat.beq c2.length (64 : Nat)) (Option.bind (q43 N) fun rr0 => cond (!rr0.1) (some ((false, ()))) (cond ((ltI (400 : Int) (↑b0.length : Int))) (some ((true, ()))) (Option.bind (q45 N b0) fun rr1 => Option.bind (q42 N (List.take (rr1.1.2) (List.drop (0 : Nat) (rr1.1.1)))) fun rr2 => Option.bind (q46 N b0) fun rr3 => must (Nat.beq rr2.1.length (32 : Nat) && Nat.beq rr3.1.length (32 : Nat)) (cond ((eqL El.u8 rr2.1 rr3.1)) (must (leN (List.length (rr1.1.1)) (List.length (rr1.1.1)) && leN (List.length (rr1.1.1)) (List.length (rr1.1.1))) (Option.bind (zdw N (rr1.1.1) (rr1.1.2) b0) fun rr4 => cond rr4.1 (Option.bind (q48 N h1 c2) fun rr5 => Option.bind (q49 N h1 c2) fun rr6 => must (Nat.beq rr5.1.length (8 : Nat) && Nat.beq rr6.1.length (8 : Nat)) (some (((eqL El.u32 rr5.1 rr6.1), ())))) (some ((false, ()))))) (some ((false, ()))))))))
theorem p4_t : p4 = q4 := by
  (repeat (apply funext; intro _))
  simp only [p4, q4, hide_eq, zkm, zsg, ztD, ztI, ztC, zsf, ztB]
end
section
theorem zsi : q43 2000 = some (true, ()) := by kernel_rfl
def zfp : List UInt32 := [(1779033703 : UInt32), (3144134277 : UInt32), (1013904242 : UInt32), (2773480762 : UInt32), (1359893119 : UInt32), (2600822924 : UInt32), (528734635 : UInt32), (1541459225 : UInt32)]
theorem zoK : q50 2000 = some (zfp, ()) := by kernel_rfl
theorem zoL (N : Nat) : q149 N = some (zfp, ()) := rfl
def tabK : List UInt32 := match q154 2000 with | some (l, _) => l | none => []
theorem zoM (N : Nat) : q154 N = some (tabK, ()) := rfl
theorem zhK : q151 2000 = some (tabK, ()) := by kernel_rfl
end
section
theorem zbS {α : Type} (l : List α) (i : Nat) (x : α) : (setL l i x).length = l.length := by
  induction l generalizing i with
  | nil => rfl
  | cons y l ih => cases i <;> simp [setL, ih]
end
section
theorem zjl {n : Nat} (h : n < 18446744073709551616) : (u64I (n : Int)).toNat = n := by
  unfold u64I
  rw [UInt64.toNat_ofNat']
  omega
end
section
theorem zaC {R : Type} {x : Option R} : must true x = x := rfl
def trn (x : UInt32) (n : Nat) : UInt32 := zbz x n ||| zcv x (32 - n)
theorem zqO : ∀ n : Fin 32, 0 < n.val -> (u64I (wr (0 - (n.val : Int))) &&& 31).toNat = 32 - n.val /\ ((32 : UInt64) - (u64I (wr (0 - (n.val : Int))) &&& 31)).toNat = n.val := by decide +kernel
theorem zfc (N : Nat) (x : UInt32) (n : Nat) (h0 : 0 < n) (h : n < 32) : q211 N x (wr (0 - (n : Int))) = some (trn x n, ()) := by
  have e := zqO ⟨n, h⟩ h0
  unfold q211 trn
  rw [e.1, e.2, UInt32.or_comm]
theorem zoN : ∀ n : Fin 32, 0 < n.val -> (UInt64.ofNat (Int.toNat (n.val : Int))).toNat = n.val /\ (UInt64.ofNat (Int.toNat (wr (32 - (n.val : Int))))).toNat = 32 - n.val /\ leI 0 (n.val : Int) = true /\ ltI (n.val : Int) 18446744073709551616 = true /\ leI 0 (wr (32 - (n.val : Int))) = true /\ ltI (wr (32 - (n.val : Int))) 18446744073709551616 = true := by decide +kernel
theorem zbZ (N : Nat) (x : UInt32) (n : Nat) (h0 : 0 < n) (h : n < 32) : q209 N x (n : Int) = some (trn x n, ()) := by
  obtain ⟨e1, e2, e3, e4, e5, e6⟩ := zoN ⟨n, h⟩ h0
  unfold q209 trn
  simp only at e1 e2 e3 e4 e5 e6
  rw [e1, e2, e3, e4, e5, e6]
  rfl
theorem zgK (N : Nat) (x : UInt32) (a b c : Nat) (ha : 0 < a /\ a < 32) (hb : 0 < b /\ b < 32) (hc : 0 < c /\ c < 32) : q155 N x (a : Int) (b : Int) (c : Int) = some (trn x a ^^^ trn x b ^^^ trn x c, ()) := by
  unfold q155
  rw [zfc N x a ha.1 ha.2, zfc N x b hb.1 hb.2, zfc N x c hc.1 hc.2]
  rfl
theorem zmR (N : Nat) (x : UInt32) (a b c : Nat) (ha : 0 < a /\ a < 32) (hb : 0 < b /\ b < 32) (hc : 0 < c /\ c < 32) : q210 N x (a : Int) (b : Int) (c : Int) = some (trn x a ^^^ trn x b ^^^ zbz x c, ()) := by
  unfold q210
  rw [zfc N x a ha.1 ha.2, zfc N x b hb.1 hb.2, zjl (by omega)]
  rfl
theorem zsj (x : UInt32) (c : UInt8) : (zcv x 8 ||| UInt32.ofNat c.toNat) = zcv x 8 + UInt32.ofNat c.toNat := by
  have hc : c.toNat < 256 := c.toNat_lt
  have hs : (zcv x 8).toNat = x.toNat * 256 % 4294967296 := by simp [zcv, UInt32.toNat_ofNat']
  have hd : (UInt32.ofNat c.toNat).toNat = c.toNat := by rw [UInt32.toNat_ofNat']; omega
  have hm : x.toNat * 256 % 4294967296 = 2 ^ 8 * (x.toNat % 16777216) := by omega
  apply UInt32.toNat_inj.1
  rw [UInt32.toNat_or, UInt32.toNat_add, hs, hd, hm, ← Nat.two_pow_add_eq_or_of_lt (by omega : c.toNat < 2 ^ 8)]
  omega
def zc4 (b : List UInt8) : Nat -> Nat -> List UInt32 -> List UInt32
  | 0, _, w => w
  | k + 1, i, w => zc4 b k (i + 1) (setL w (i / 4) (zcv (w.getD (i / 4) 0) 8 + UInt32.ofNat (b.getD i 0).toNat))
theorem zmS (b : List UInt8) (k m i : Nat) (w : List UInt32) : zc4 b (k + m) i w = zc4 b m (i + k) (zc4 b k i w) := by
  induction k generalizing i w with
  | zero => rw [Nat.zero_add]; rfl
  | succ k ih => rw [Nat.succ_add]; simp only [zc4]; rw [ih, show i + 1 + k = i + (k + 1) by omega]
theorem zhL (b : List UInt8) (k i : Nat) (w : List UInt32) : (zc4 b k i w).length = w.length := by
  induction k generalizing i w with
  | zero => rfl
  | succ k ih => simp only [zc4]; rw [ih, zbS]
def pu0 (x : UInt32) : UInt32 := trn x 7 ^^^ trn x 18 ^^^ zbz x 3
def pu1 (x : UInt32) : UInt32 := trn x 17 ^^^ trn x 19 ^^^ zbz x 10
def zfd : Nat -> Nat -> List UInt32 -> List UInt32
  | 0, _, w => w
  | k + 1, i, w => zfd k (i + 1) (setL w i (w.getD (i - 16) 0 + pu0 (w.getD (i - 15) 0) + w.getD (i - 7) 0 + pu1 (w.getD (i - 2) 0)))
theorem zmT (k i : Nat) (w : List UInt32) : (zfd k i w).length = w.length := by
  induction k generalizing i w with
  | zero => rfl
  | succ k ih => simp only [zfd]; rw [ih, zbS]
def rndS (kt w : List UInt32) (i : Nat) (s : List UInt32) : List UInt32 :=
  let x := s.getD 7 0 + (trn (s.getD 4 0) 6 ^^^ trn (s.getD 4 0) 11 ^^^ trn (s.getD 4 0) 25) + ((s.getD 4 0 &&& s.getD 5 0) ^^^ (~~~ s.getD 4 0 &&& s.getD 6 0)) + kt.getD i 0 + w.getD i 0
  let y := (trn (s.getD 0 0) 2 ^^^ trn (s.getD 0 0) 13 ^^^ trn (s.getD 0 0) 22) + ((s.getD 0 0 &&& s.getD 1 0) ^^^ (s.getD 0 0 &&& s.getD 2 0) ^^^ (s.getD 1 0 &&& s.getD 2 0))
  [x + y, s.getD 0 0, s.getD 1 0, s.getD 2 0, s.getD 3 0 + x, s.getD 4 0, s.getD 5 0, s.getD 6 0]
def rnds (kt w : List UInt32) : Nat -> Nat -> List UInt32 -> List UInt32
  | 0, _, s => s
  | k + 1, i, s => rnds kt w k (i + 1) (rndS kt w i s)
def addW : List UInt32 -> List UInt32 -> List UInt32
  | x :: l, y :: m => (x + y) :: addW l m
  | l, _ => l
def zW : List UInt32 := List.replicate 64 0
def blk (h : List UInt32) (b : List UInt8) : List UInt32 := addW h (rnds tabK (zfd 48 16 (zc4 b 64 0 zW)) 64 0 h)
theorem zkn (N : Nat) (b : List UInt32) : ∀ (k n i : Nat) (w : List UInt32), i + k = 64 -> k < n -> w.length = 64 -> 16 <= i -> zdU N n (i : Int) b w = some (zfd k i w, ()) := by
  intro k
  induction k with
  | zero =>
    intro n i w hi hn hw h16
    obtain ⟨n, rfl⟩ : ∃ m, n = m + 1 := ⟨n - 1, by omega⟩
    obtain rfl : i = 64 := by omega
    rw [zd8]
    unfold zdT
    rw [zaB (by omega), cond_false, hw]
    rfl
  | succ k ih =>
    intro n i w hi hn hw h16
    obtain ⟨n, rfl⟩ : ∃ m, n = m + 1 := ⟨n - 1, by omega⟩
    rw [zd8]
    unfold zdT
    have e1 : wr ((i : Int) - 16) = ((i - 16 : Nat) : Int) := by rw [zb9 (by omega) (by omega)]; omega
    have e2 : wr ((i : Int) - 15) = ((i - 15 : Nat) : Int) := by rw [zb9 (by omega) (by omega)]; omega
    have e3 : wr ((i : Int) - 7) = ((i - 7 : Nat) : Int) := by rw [zb9 (by omega) (by omega)]; omega
    have e4 : wr ((i : Int) - 2) = ((i - 2 : Nat) : Int) := by rw [zb9 (by omega) (by omega)]; omega
    have e5 : ∀ x, q210 N x 7 18 3 = some (pu0 x, ()) := fun x => zmR N x 7 18 3 (by omega) (by omega) (by omega)
    have e6 : ∀ x, q210 N x 17 19 10 = some (pu1 x, ()) := fun x => zmR N x 17 19 10 (by omega) (by omega) (by omega)
    rw [zaA (by omega), cond_true, e1, e2, e3, e4, zbY (by omega)]
    simp only [zgF, zaE, e5, e6, Option.bind_some, Int.toNat_natCast]
    rw [zaz (by omega), zaz (by omega), zaz (by omega), zaz (by omega), zaz (by omega)]
    simp only [Bool.and_self, zaC]
    rw [ih n (i + 1) _ (by omega) (by omega) (by rw [zbS]; exact hw) (by omega)]
    rfl
theorem zmU (N : Nat) (A : Int -> List UInt8 -> List UInt32 -> List UInt32 -> Option (List UInt32 × Unit)) (b : List UInt8) (z : List UInt32) (t : Nat) (ht : t < 16) : ∀ (k n j : Nat) (w : List UInt32), j + k = 4 -> k < n ->
    zfW N A n (t : Int) (t : Int) (4 * t) 4 4 (j : Int) b z w = A ((t + 1 : Nat) : Int) b z (zc4 b k (4 * t + j) w) := by
  intro k
  induction k with
  | zero =>
    intro n j w hj hn
    obtain ⟨n, rfl⟩ : ∃ m, n = m + 1 := ⟨n - 1, by omega⟩
    obtain rfl : j = 4 := by omega
    rw [ze5]
    unfold zfV
    rw [zaB (by omega), cond_false, zbY (by omega)]
    rfl
  | succ k ih =>
    intro n j w hj hn
    obtain ⟨n, rfl⟩ : ∃ m, n = m + 1 := ⟨n - 1, by omega⟩
    rw [ze5]
    unfold zfV
    rw [zaA (by omega), cond_true, zbY (by omega)]
    simp only [zgF, zaE, Int.toNat_natCast]
    rw [zaz (by omega), zaz (by omega)]
    simp only [Bool.and_self, zaC]
    rw [show UInt64.toNat 8 = 8 from rfl, zsj, ih n (j + 1) _ (by omega) (by omega)]
    simp only [zc4]
    rw [show (4 * t + j) / 4 = t by omega]
    rfl
theorem zmV (N : Nat) (hN : 100 < N) (b : List UInt8) (z : List UInt32) : ∀ (k n t : Nat) (w : List UInt32), t + k = 16 -> k < n -> w.length = 64 -> ze6 N n (t : Int) b z w = some (zfd 48 16 (zc4 b (4 * k) (4 * t) w), ()) := by
  intro k
  induction k with
  | zero =>
    intro n t w ht hn hw
    obtain ⟨n, rfl⟩ : ∃ m, n = m + 1 := ⟨n - 1, by omega⟩
    obtain rfl : t = 16 := by omega
    rw [ze7]
    unfold zfX
    rw [zaB (by omega), cond_false]
    exact zkn N z 48 N 16 w rfl (by omega) hw (Nat.le_refl _)
  | succ k ih =>
    intro n t w ht hn hw
    obtain ⟨n, rfl⟩ : ∃ m, n = m + 1 := ⟨n - 1, by omega⟩
    rw [ze7]
    unfold zfX
    have e1 : wr (4 * (t : Int)) = ((4 * t : Nat) : Int) := by rw [zb9 (by omega) (by omega)]; omega
    have e2 : wr (((4 * t : Nat) : Int) + 4) = ((4 * t + 4 : Nat) : Int) := by rw [zb9 (by omega) (by omega)]; omega
    have e3 : Int.toNat (((4 * t + 4 : Nat) : Int) - ((4 * t : Nat) : Int)) = 4 := by omega
    rw [zaA (by omega), cond_true, e1, e2, e3, zaE, zcL (by omega), zcL (by omega)]
    simp only [Bool.and_self, zaC, Int.toNat_natCast]
    have h := zmU N (ze6 N n) b z t (by omega) 4 N 0 w rfl (by omega)
    rw [show (4 : Int) = ((4 : Nat) : Int) from rfl, show (0 : Int) = ((0 : Nat) : Int) from rfl] at *
    rw [h, ih n (t + 1) _ (by omega) (by omega) (by rw [zhL]; exact hw), show 4 * (k + 1) = 4 + 4 * k by omega, zmS]
    rfl
theorem zqP {N : Nat} (hN : 100 < N) {b : List UInt8} (hb : b.length = 64) : q153 N b = some (zfd 48 16 (zc4 b 64 0 zW), ()) := by
  unfold q153
  rw [hb]
  exact zmV N hN b _ 16 N 0 _ rfl (by omega) rfl
theorem zoO (N : Nat) (z : List UInt32) (s0 s1 s2 s3 s4 s5 s6 s7 h0 h1 h2 h3 h4 h5 h6 h7 : UInt32) (n : Nat) : zmB N (n + 9) [s0, s1, s2, s3, s4, s5, s6, s7] 0 [h0, h1, h2, h3, h4, h5, h6, h7] z = some (addW [h0, h1, h2, h3, h4, h5, h6, h7] [s0, s1, s2, s3, s4, s5, s6, s7], ()) := rfl
theorem zoP (h s : List UInt32) : (addW h s).length = h.length := by
  induction h generalizing s with
  | nil => cases s <;> rfl
  | cons x l ih => cases s with
    | nil => rfl
    | cons y m => simp [addW, ih]
theorem zko {l : List UInt32} (h : l.length = 8) : ∃ a b c d e f g i, l = [a, b, c, d, e, f, g, i] := by
  match l, h with
  | [a, b, c, d, e, f, g, i], _ => exact ⟨a, b, c, d, e, f, g, i, rfl⟩
theorem zmW {N : Nat} (hN : 100 < N) {h s z : List UInt32} (hh : h.length = 8) (hs : s.length = 8) : zmB N N s 0 h z = some (addW h s, ()) := by
  obtain ⟨a, b, c, d, e, f, g, i, rfl⟩ := zko hh
  obtain ⟨a', b', c', d', e', f', g', i', rfl⟩ := zko hs
  obtain ⟨n, rfl⟩ : ∃ n, N = n + 9 := ⟨N - 9, by omega⟩
  exact zoO _ z a' b' c' d' e' f' g' i' a b c d e f g i n
theorem ziE {N : Nat} (hN : 100 < N) (h z w kt : List UInt32) (hh : h.length = 8) : ∀ (k n i : Nat) (s : List UInt32), i + (k + 1) = 64 -> k < n -> zcN N n (i : Int) h z w kt s = some (addW h (rnds kt w (k + 1) i s), ()) := by
  intro k
  induction k with
  | zero =>
    intro n i s hi hn
    obtain ⟨n, rfl⟩ : ∃ m, n = m + 1 := ⟨n - 1, by omega⟩
    rw [zdv]
    unfold zcM
    have e5 : ∀ x, q155 N x 6 11 25 = some (trn x 6 ^^^ trn x 11 ^^^ trn x 25, ()) := fun x => zgK N x 6 11 25 (by omega) (by omega) (by omega)
    have e6 : ∀ x, q155 N x 2 13 22 = some (trn x 2 ^^^ trn x 13 ^^^ trn x 22, ()) := fun x => zgK N x 2 13 22 (by omega) (by omega) (by omega)
    simp only [e5, e6, Option.bind_some]
    rw [zbY (by omega), zaA (show (i : Int) < ((64 : Nat) : Int) by omega), zaE, zaB (by omega), cond_false]
    simp only [Bool.and_self, zaC]
    rw [zmW hN hh rfl]
    simp only [rnds, rndS, Int.toNat_natCast]
  | succ k ih =>
    intro n i s hi hn
    obtain ⟨n, rfl⟩ : ∃ m, n = m + 1 := ⟨n - 1, by omega⟩
    rw [zdv]
    unfold zcM
    have e5 : ∀ x, q155 N x 6 11 25 = some (trn x 6 ^^^ trn x 11 ^^^ trn x 25, ()) := fun x => zgK N x 6 11 25 (by omega) (by omega) (by omega)
    have e6 : ∀ x, q155 N x 2 13 22 = some (trn x 2 ^^^ trn x 13 ^^^ trn x 22, ()) := fun x => zgK N x 2 13 22 (by omega) (by omega) (by omega)
    simp only [e5, e6, Option.bind_some]
    rw [zbY (by omega), zaA (show (i : Int) < ((64 : Nat) : Int) by omega), zaE, zaA (by omega), cond_true]
    simp only [Bool.and_self, zaC]
    rw [ih n (i + 1) _ (by omega) (by omega)]
    simp only [rnds, rndS, Int.toNat_natCast]
theorem zpl {N : Nat} (hN : 100 < N) {h : List UInt32} {b : List UInt8} (hh : h.length = 8) (hb : b.length = 64) : q48 N h b = some (blk h b, ()) := by
  have e := zqP hN hb
  have e2 : (zfd 48 16 (zc4 b 64 0 zW)).length = 64 := by rw [zmT, zhL]; rfl
  unfold q48
  rw [e, zoM]
  simp only [Option.bind_some, hh, hb, e2]
  have e3 := ziE hN h (List.replicate 8 0) (zfd 48 16 (zc4 b 64 0 zW)) tabK hh 63 N 0 h rfl (by omega)
  exact e3
theorem zdX {h : List UInt32} {b : List UInt8} (hh : h.length = 8) : (blk h b).length = 8 := by
  unfold blk; rw [zoP]; exact hh
theorem ziF {N : Nat} (hN : 100 < N) {h s z : List UInt32} (hh : h.length = 8) (hs : s.length = 8) : ze8 N N 0 h z s = some (addW h s, ()) := by
  obtain ⟨a, b, c, d, e, f, g, i, rfl⟩ := zko hh
  obtain ⟨a', b', c', d', e', f', g', i', rfl⟩ := zko hs
  obtain ⟨n, rfl⟩ : ∃ n, N = n + 9 := ⟨N - 9, by omega⟩
  have e : ze8 (n + 9) (n + 9) 0 [a, b, c, d, e, f, g, i] z [a', b', c', d', e', f', g', i'] = some ([a' + a, b' + b, c' + c, d' + d, e' + e, f' + f, g' + g, i' + i], ()) := rfl
  rw [e]
  simp only [addW, UInt32.add_comm]
theorem zkp {N : Nat} (hN : 100 < N) (h z w kt : List UInt32) (hh : h.length = 8) : ∀ (k n i : Nat) (s : List UInt32), i + k = 64 -> k < n -> s.length = 8 -> zdW N n (i : Int) h kt z w s = some (addW h (rnds kt w k i s), ()) := by
  intro k
  induction k with
  | zero =>
    intro n i s hi hn hs
    obtain ⟨n, rfl⟩ : ∃ m, n = m + 1 := ⟨n - 1, by omega⟩
    rw [zd9]
    unfold zdV
    rw [zaB (by omega), cond_false]
    exact ziF hN hh hs
  | succ k ih =>
    intro n i s hi hn hs
    obtain ⟨n, rfl⟩ : ∃ m, n = m + 1 := ⟨n - 1, by omega⟩
    rw [zd9]
    unfold zdV
    have e1 : ∀ x, q209 N x 6 = some (trn x 6, ()) := fun x => zbZ N x 6 (by omega) (by omega)
    have e2 : ∀ x, q209 N x 11 = some (trn x 11, ()) := fun x => zbZ N x 11 (by omega) (by omega)
    have e3 : ∀ x, q209 N x 25 = some (trn x 25, ()) := fun x => zbZ N x 25 (by omega) (by omega)
    have e4 : ∀ x, q209 N x 2 = some (trn x 2, ()) := fun x => zbZ N x 2 (by omega) (by omega)
    have e5 : ∀ x, q209 N x 13 = some (trn x 13, ()) := fun x => zbZ N x 13 (by omega) (by omega)
    have e6 : ∀ x, q209 N x 22 = some (trn x 22, ()) := fun x => zbZ N x 22 (by omega) (by omega)
    simp only [e1, e2, e3, e4, e5, e6, Option.bind_some]
    rw [zbY (by omega), zaA (by omega), cond_true, zaA (show (i : Int) < ((64 : Nat) : Int) by omega), zaE]
    simp only [Bool.and_self, zaC]
    rw [ih n (i + 1) _ (by omega) (by omega) rfl]
    simp only [rnds, rndS, Int.toNat_natCast]
theorem zmX {N : Nat} (hN : 100 < N) (h kt z : List UInt32) (hh : h.length = 8) : ∀ (k n i : Nat) (w : List UInt32), i + k = 64 -> k < n -> w.length = 64 -> 16 <= i -> zf0 N n (i : Int) h kt z w = some (addW h (rnds kt (zfd k i w) 64 0 h), ()) := by
  intro k
  induction k with
  | zero =>
    intro n i w hi hn hw h16
    obtain ⟨n, rfl⟩ : ∃ m, n = m + 1 := ⟨n - 1, by omega⟩
    rw [ze9]
    unfold zfZ
    rw [zaB (by omega), cond_false, hh]
    exact zkp hN h z w kt hh 64 N 0 h rfl (by omega) hh
  | succ k ih =>
    intro n i w hi hn hw h16
    obtain ⟨n, rfl⟩ : ∃ m, n = m + 1 := ⟨n - 1, by omega⟩
    rw [ze9]
    unfold zfZ
    have e1 : wr ((i : Int) - 16) = ((i - 16 : Nat) : Int) := by rw [zb9 (by omega) (by omega)]; omega
    have e2 : wr ((i : Int) - 15) = ((i - 15 : Nat) : Int) := by rw [zb9 (by omega) (by omega)]; omega
    have e3 : wr ((i : Int) - 7) = ((i - 7 : Nat) : Int) := by rw [zb9 (by omega) (by omega)]; omega
    have e4 : wr ((i : Int) - 2) = ((i - 2 : Nat) : Int) := by rw [zb9 (by omega) (by omega)]; omega
    have f1 : ∀ x, q209 N x 7 = some (trn x 7, ()) := fun x => zbZ N x 7 (by omega) (by omega)
    have f2 : ∀ x, q209 N x 18 = some (trn x 18, ()) := fun x => zbZ N x 18 (by omega) (by omega)
    have f3 : ∀ x, q209 N x 17 = some (trn x 17, ()) := fun x => zbZ N x 17 (by omega) (by omega)
    have f4 : ∀ x, q209 N x 19 = some (trn x 19, ()) := fun x => zbZ N x 19 (by omega) (by omega)
    rw [zaA (by omega), cond_true, e1, e2, e3, e4, zbY (by omega)]
    simp only [zgF, zaE, f1, f2, f3, f4, Option.bind_some, Int.toNat_natCast]
    rw [zaz (by omega), zaz (by omega), zaz (by omega), zaz (by omega), zaz (by omega)]
    simp only [Bool.and_self, zaC]
    rw [ih n (i + 1) _ (by omega) (by omega) (by rw [zbS]; exact hw) (by omega)]
    rfl
theorem zmY {N : Nat} (hN : 100 < N) (h kt z : List UInt32) (b : List UInt8) (hh : h.length = 8) : ∀ (k n i : Nat) (w : List UInt32), i + k = 64 -> k < n -> w.length = 64 -> zf2 N n (i : Int) h b kt z w = some (addW h (rnds kt (zfd 48 16 (zc4 b k i w)) 64 0 h), ()) := by
  intro k
  induction k with
  | zero =>
    intro n i w hi hn hw
    obtain ⟨n, rfl⟩ : ∃ m, n = m + 1 := ⟨n - 1, by omega⟩
    rw [zfa]
    unfold zf1
    rw [zaB (by omega), cond_false]
    exact zmX hN h kt z hh 48 N 16 w rfl (by omega) hw (Nat.le_refl _)
  | succ k ih =>
    intro n i w hi hn hw
    obtain ⟨n, rfl⟩ : ∃ m, n = m + 1 := ⟨n - 1, by omega⟩
    rw [zfa]
    unfold zf1
    have e1 : wr (Int.tdiv (i : Int) 4) = ((i / 4 : Nat) : Int) := by rw [Int.tdiv_eq_ediv_of_nonneg (by omega), zb9 (by omega) (by omega)]; omega
    rw [zaA (by omega), cond_true, e1, zbY (by omega)]
    simp only [zgF, zaE, Int.toNat_natCast]
    rw [zaz (by omega), zaz (by omega)]
    simp only [Bool.and_self, zaC]
    rw [ih n (i + 1) _ (by omega) (by omega) (by rw [zbS]; exact hw)]
    rfl
theorem zmZ {N : Nat} (hN : 100 < N) {h : List UInt32} {b : List UInt8} (hh : h.length = 8) (hb : b.length = 64) : q152 N h b tabK = some (blk h b, ()) := by
  have e := zmY hN h tabK (List.replicate 8 0) b hh 64 N 0 (List.replicate 64 0) rfl (by omega) rfl
  unfold q152
  rw [hh, hb]
  exact e
theorem zsk {h : List UInt32} {b : List UInt8} (hh : h.length = 8) (hb : b.length = 64) : q49 2000 h b = some (blk h b, ()) := by
  unfold q49
  rw [zhK]
  simp only [Option.bind_some]
  rw [zmZ (by omega) hh hb]
  simp only [Option.bind_some, hh, hb, zdX hh]
  rfl
end
section
def zgL : Nat -> List UInt32 -> List UInt8 -> List UInt32
  | 0, h, _ => h
  | k + 1, h, l => zgL k (blk h (l.take 64)) (l.drop 64)
def bytH (h : List UInt32) (i : Nat) : UInt8 := UInt8.ofNat (zbz (h.getD (i / 4) 0) (24 - 8 * (i % 4))).toNat
def outB (h : List UInt32) : List UInt8 := (List.range 32).map (bytH h)
theorem zoQ (h : List UInt32) : (outB h).length = 32 := by simp [outB]
def len8 (n : UInt64) : List UInt8 := [56, 48, 40, 32, 24, 16, 8, 0].map fun s => UInt8.ofNat (zas n s).toNat
def padZ (L : Nat) : Nat := (119 - L % 64) % 64
def zdx (b : List UInt8) : List UInt8 := b ++ [128] ++ List.replicate (padZ b.length) 0 ++ len8 (u64I (b.length : Int) * 8)
theorem zdY (b : List UInt8) : (zdx b).length = b.length + 1 + padZ b.length + 8 := by simp [zdx, len8]; omega
def zm0 (b : List UInt8) : List UInt8 := outB (zgL ((zdx b).length / 64) zfp (zdx b))
theorem zaN (N n s : Nat) (v : UInt64) (x : List UInt8) (hs : s < 1000) (hx : x.length < 100000000) : zdu N (n + 1) v (s : Int) x = zdu N n v ((s : Int) - 8) (x ++ [UInt8.ofNat (zas v s).toNat]) := by
  rw [ze3]
  unfold zfS
  rw [zaE, cond_true, zb9 (by omega) (by omega), zjl (by omega), zaW (by simp; omega), zaC]
theorem zm1 {N : Nat} (hN : 100 < N) (v : UInt64) (x : List UInt8) (hx : x.length < 10000000) : zdu N N v 56 x = some (x ++ len8 v, ()) := by
  obtain ⟨n, hn⟩ : ∃ n, N = n + 9 := ⟨N - 9, by omega⟩
  have e : zdu N (n + 9) v 56 x = some (x ++ len8 v, ()) := by
    have s1 := zaN N (n + 8) 56 v x (by omega) (by omega)
    have s2 := fun x h => zaN N (n + 7) 48 v x (by omega) h
    have s3 := fun x h => zaN N (n + 6) 40 v x (by omega) h
    have s4 := fun x h => zaN N (n + 5) 32 v x (by omega) h
    have s5 := fun x h => zaN N (n + 4) 24 v x (by omega) h
    have s6 := fun x h => zaN N (n + 3) 16 v x (by omega) h
    have s7 := fun x h => zaN N (n + 2) 8 v x (by omega) h
    have s8 := fun x h => zaN N (n + 1) 0 v x (by omega) h
    refine s1.trans ((s2 _ (by simp; omega)).trans ((s3 _ (by simp; omega)).trans ((s4 _ (by simp; omega)).trans ((s5 _ (by simp; omega)).trans ((s6 _ (by simp; omega)).trans ((s7 _ (by simp; omega)).trans ((s8 _ (by simp; omega)).trans ?_)))))))
    rw [ze3]
    unfold zfS
    rw [zhG (by omega), cond_false]
    simp [len8]
  rw [← hn] at e
  exact e
theorem zjm (L : Nat) : eqI (Int.tmod (L : Int) 64) 56 = decide (L % 64 = 56) := by
  have : Int.tmod (L : Int) 64 = ((L % 64 : Nat) : Int) := by rw [Int.tmod_eq_emod_of_nonneg (by omega)]; omega
  rw [this]
  exact zp6 _ _
theorem zm2 {N : Nat} (hN : 100 < N) (b : List UInt8) : ∀ (z n : Nat) (x : List UInt8), (x.length + z) % 64 = 56 -> z < 64 -> z < n -> x.length + z < 1000000 -> zfU N n b x = some (x ++ List.replicate z 0 ++ len8 (u64I (b.length : Int) * 8), ()) := by
  intro z
  induction z with
  | zero =>
    intro n x h1 h2 hn hx
    obtain ⟨n, rfl⟩ : ∃ m, n = m + 1 := ⟨n - 1, by omega⟩
    rw [ze4]
    unfold zfT
    rw [zjm, decide_eq_true (by omega), zm1 hN _ _ (by omega)]
    simp
  | succ z ih =>
    intro n x h1 h2 hn hx
    obtain ⟨n, rfl⟩ : ∃ m, n = m + 1 := ⟨n - 1, by omega⟩
    rw [ze4]
    unfold zfT
    rw [zjm, decide_eq_false (by omega), Bool.not_false, cond_true, zaW (by simp; omega), zaC, ih n _ (by simp; omega) (by omega) (by omega) (by simp; omega)]
    simp [List.replicate_succ]
theorem zqQ {N : Nat} (hN : 100 < N) {b : List UInt8} (hb : b.length < 100000) : q150 N b = some (zdx b, ()) := by
  unfold q150
  rw [zaW (by omega), zaW (by simp; omega), zaC, zaC, zm2 hN b (padZ b.length) N _ (by unfold padZ; simp; omega) (by unfold padZ; omega) (by unfold padZ; omega) (by unfold padZ; simp; omega)]
  rfl
set_option maxRecDepth 100000 in
theorem zm3 (n : Nat) (z : List UInt8) (a b c d e f g i : UInt32) : zot (n + 9) (n + 9) [a, b, c, d, e, f, g, i] 0 z (List.replicate 32 0) = some (outB [a, b, c, d, e, f, g, i], ()) := by kernel_rfl
theorem zoR {N : Nat} (hN : 100 < N) (z l : List UInt8) : ∀ (k n f : Nat) (h : List UInt32), f + 64 * k = l.length -> k < n -> h.length = 8 -> l.length < 1000000 -> zkh N n f (64 * k) z h l = some (outB (zgL k h (l.drop f)), ()) := by
  intro k
  induction k with
  | zero =>
    intro n f h hf hn hh hl
    obtain ⟨n, rfl⟩ : ∃ m, n = m + 1 := ⟨n - 1, by omega⟩
    rw [zfY]
    unfold zkg
    rw [zaB (by omega), cond_false]
    obtain ⟨a, b, c, d, e, f, g, i, rfl⟩ := zko hh
    obtain ⟨n, rfl⟩ : ∃ n, N = n + 9 := ⟨N - 9, by omega⟩
    exact zm3 n z a b c d e f g i
  | succ k ih =>
    intro n f h hf hn hh hl
    obtain ⟨n, rfl⟩ : ∃ m, n = m + 1 := ⟨n - 1, by omega⟩
    have hb : ((l.drop f).take 64).length = 64 := by simp; omega
    rw [zfY]
    unfold zkg
    rw [zaA (by omega), cond_true, zcL (by omega), zaC, show f + Int.toNat 0 = f from rfl, zaW (by omega), zaC, zpl hN hh hb]
    simp only [Option.bind_some, zdX hh]
    rw [zcL (by omega), Bool.and_self, zaC, show Nat.beq 8 8 = true from rfl, zaC]
    rw [show Int.toNat (((64 * (k + 1) : Nat) : Int) - 64) = 64 * k by omega, show f + Int.toNat 64 = f + 64 from rfl, ih n (f + 64) _ (by omega) (by omega) (zdX hh) hl]
    simp only [zgL, List.drop_drop]
theorem zsl {N : Nat} (hN : 1000 < N) {b : List UInt8} (hb : b.length < 60000) : q42 N b = some (zm0 b, ()) := by
  have h64 : (zdx b).length = 64 * ((zdx b).length / 64) := by rw [zdY]; unfold padZ; omega
  unfold q42
  rw [zoL, zqQ (by omega) (by omega)]
  simp only [Option.bind_some]
  rw [show Nat.beq zfp.length 8 = true from rfl, zaC]
  have e := zoR (by omega : 100 < N) (List.replicate 32 0) (zdx b) ((zdx b).length / 64) N 0 zfp (by omega) (by rw [zdY]; unfold padZ; omega) rfl (by rw [zdY]; unfold padZ; omega)
  rw [← h64] at e
  exact e
theorem zkq (b : List UInt8) : (zm0 b).length = 32 := zoQ _
theorem zkr (z s : List UInt8) (hz : z.length = 64) (hs : s.length = 64) : zae z (Int.toNat 0) (List.take (Int.toNat (((64 : Nat) : Int) - 0)) s) = s := by
  rw [show Int.toNat (((64 : Nat) : Int) - 0) = 64 from rfl, show Int.toNat 0 = 0 from rfl, List.take_of_length_le (by omega)]
  unfold zae
  rw [List.take_zero, List.drop_of_length_le (by omega)]
  simp
end
section
def q6 (N : Nat) (a0 m1 : List UInt64) : Option (Bool × Unit) :=
  Option.bind (q51 N) fun r0 => cond (!r0.1) (some ((false, ()))) (cond ((ltI (24 : Int) (↑a0.length : Int))) (some ((true, ()))) (cond ((ltI (12 : Int) (↑m1.length : Int))) (some ((true, ()))) (Option.bind (q52 N a0 m1) fun r1 => Option.bind (q53 N a0 m1) fun r2 => cond ((eqI (r1.2.1) (r2.2.1))) (Option.bind (q54 N r1.1 r2.1) fun r3 => some ((Prod.fst r3, ()))) (some ((false, ()))))))
end
section
theorem bsm {α β : Type} {a : α} {f : α -> Option β} : Option.bind (some a) f = f a := by rw [Option.bind_some]
end
section
set_option maxRecDepth 100000 in
theorem zks (n : Nat) (z : List UInt8) (a b c d e f g i : UInt32) : zjk (n + 40) (n + 40) 0 z [a, b, c, d, e, f, g, i] (List.replicate 32 0) = some (outB [a, b, c, d, e, f, g, i], ()) := by kernel_rfl
theorem zm4 (z x : List UInt8) (hx : x.length < 1000000) : ∀ (k n i : Nat) (h : List UInt32), i + 64 * k = x.length -> k < n -> h.length = 8 -> zf4 2000 n (i : Int) x z h tabK = some (outB (zgL k h (x.drop i)), ()) := by
  intro k
  induction k with
  | zero =>
    intro n i h hi hn hh
    obtain ⟨n, rfl⟩ : ∃ m, n = m + 1 := ⟨n - 1, by omega⟩
    rw [zfb]
    unfold zf3
    rw [zaB (by omega), cond_false]
    obtain ⟨a, b, c, d, e, f, g, i, rfl⟩ := zko hh
    exact zks 1960 z a b c d e f g i
  | succ k ih =>
    intro n i h hi hn hh
    obtain ⟨n, rfl⟩ : ∃ m, n = m + 1 := ⟨n - 1, by omega⟩
    have hbl : ((x.drop i).take 64).length = 64 := by simp; omega
    have e1 : wr ((i : Int) + 64) = ((i + 64 : Nat) : Int) := by rw [zb9 (by omega) (by omega)]; omega
    rw [zfb]
    unfold zf3
    rw [zaA (by omega), cond_true, e1, zaE, zcL (by omega), zcL (by omega), Bool.and_self, Bool.and_self, zaC, show Int.toNat (((i + 64 : Nat) : Int) - (i : Int)) = 64 by omega, Int.toNat_natCast]
    have e2 := zkr (List.replicate 64 0) ((x.drop i).take 64) rfl hbl
    have e3 : ∀ t, t = List.take 64 (x.drop i) -> q152 2000 h t tabK = some (blk h ((x.drop i).take 64), ()) := fun t ht => by rw [ht]; exact zmZ (by omega) hh hbl
    refine Eq.trans (congrArg (fun t => Option.bind t _) (e3 _ e2)) ?_
    simp only [Option.bind_some, zdX hh]
    rw [show Nat.beq 8 8 = true from rfl, zaC, ih n (i + 64) _ (by omega) (by omega) (zdX hh)]
    simp only [zgL, List.drop_drop]
theorem w8 (k : Nat) (hk : k < 1000) : wr ((8 : Int) * (k : Int)) = ((8 * k : Nat) : Int) := by rw [zb9 (by omega) (by omega)]; omega
theorem u8k (k : Nat) (hk : k < 1000) : UInt64.toNat (UInt64.ofNat (Int.toNat ((8 * k : Nat) : Int))) = 8 * k := by
  rw [Int.toNat_natCast, UInt64.toNat_ofNat', Nat.mod_eq_of_lt (by omega)]
theorem za2 (n k : Nat) (v : UInt64) (x z : List UInt8) (hk : k < 1000) (hx : x.length < 100000000) : zgJ 2000 (n + 1) v (k : Int) x z = zgJ 2000 n v ((k : Int) - 1) (x ++ [UInt8.ofNat (zas v (8 * k)).toNat]) z := by
  rw [zf5]
  unfold zki
  rw [zaE, cond_true, w8 k hk, zaE, zaC, zaA (by omega), zaC, zb9 (by omega) (by omega), u8k k hk, zaW (by simp; omega), zaC]
theorem zoS (v : UInt64) (x : List UInt8) (hx : x.length < 100000) (h64 : (x.length + 8) % 64 = 0) : zgJ 2000 2000 v 7 x (List.replicate 32 0) = some (outB (zgL ((x ++ len8 v).length / 64) zfp (x ++ len8 v)), ()) := by
  have e : zgJ 2000 (1991 + 9) v 7 x (List.replicate 32 0) = some (outB (zgL ((x ++ len8 v).length / 64) zfp (x ++ len8 v)), ()) := by
    have s1 := za2 (1991 + 8) 7 v x (List.replicate 32 0) (by omega) (by omega)
    have s2 := fun x h => za2 (1991 + 7) 6 v x (List.replicate 32 0) (by omega) h
    have s3 := fun x h => za2 (1991 + 6) 5 v x (List.replicate 32 0) (by omega) h
    have s4 := fun x h => za2 (1991 + 5) 4 v x (List.replicate 32 0) (by omega) h
    have s5 := fun x h => za2 (1991 + 4) 3 v x (List.replicate 32 0) (by omega) h
    have s6 := fun x h => za2 (1991 + 3) 2 v x (List.replicate 32 0) (by omega) h
    have s7 := fun x h => za2 (1991 + 2) 1 v x (List.replicate 32 0) (by omega) h
    have s8 := fun x h => za2 (1991 + 1) 0 v x (List.replicate 32 0) (by omega) h
    refine s1.trans ((s2 _ (by simp; omega)).trans ((s3 _ (by simp; omega)).trans ((s4 _ (by simp; omega)).trans ((s5 _ (by simp; omega)).trans ((s6 _ (by simp; omega)).trans ((s7 _ (by simp; omega)).trans ((s8 _ (by simp; omega)).trans ?_)))))))
    rw [zf5]
    unfold zki
    rw [zhG (by omega), cond_false, zoK, zhK]
    simp only [Option.bind_some]
    rw [show Nat.beq zfp.length 8 = true from rfl, zaC, show Nat.beq tabK.length 64 = true from by decide +kernel, zaC]
    have hxl : x ++ [UInt8.ofNat (zas v (8 * 7)).toNat] ++ [UInt8.ofNat (zas v (8 * 6)).toNat] ++ [UInt8.ofNat (zas v (8 * 5)).toNat] ++ [UInt8.ofNat (zas v (8 * 4)).toNat] ++ [UInt8.ofNat (zas v (8 * 3)).toNat] ++ [UInt8.ofNat (zas v (8 * 2)).toNat] ++ [UInt8.ofNat (zas v (8 * 1)).toNat] ++ [UInt8.ofNat (zas v (8 * 0)).toNat] = x ++ len8 v := by simp [len8]
    rw [hxl]
    have hl : (x ++ len8 v).length = x.length + 8 := by simp [len8]
    exact zm4 _ _ (by omega) ((x ++ len8 v).length / 64) 2000 0 zfp (by omega) (by omega) rfl
  exact e
theorem zoT (v : UInt64) : ∀ (z n : Nat) (x : List UInt8), (x.length + z) % 64 = 56 -> z < 64 -> z < n -> x.length + z < 90000 -> zkk 2000 n v x (List.replicate 32 0) = some (outB (zgL ((x ++ List.replicate z 0 ++ len8 v).length / 64) zfp (x ++ List.replicate z 0 ++ len8 v)), ()) := by
  intro z
  induction z with
  | zero =>
    intro n x h1 h2 hn hx
    obtain ⟨n, rfl⟩ : ∃ m, n = m + 1 := ⟨n - 1, by omega⟩
    rw [zf6]
    unfold zkj
    rw [zjm, decide_eq_true (by omega), Bool.not_true, cond_false, zoS v x (by omega) (by omega)]
    simp
  | succ z ih =>
    intro n x h1 h2 hn hx
    obtain ⟨n, rfl⟩ : ∃ m, n = m + 1 := ⟨n - 1, by omega⟩
    rw [zf6]
    unfold zkj
    rw [zjm, decide_eq_false (by omega), Bool.not_false, cond_true, zaW (by simp; omega), zaC, ih n _ (by simp; omega) (by omega) (by omega) (by simp; omega)]
    simp [List.replicate_succ]
theorem zsm {b : List UInt8} (hb : b.length < 60000) : q46 2000 b = some (zm0 b, ()) := by
  unfold q46
  rw [zaW (by omega), zaC, zaW (by simp; omega), zaC]
  exact zoT _ (padZ b.length) 2000 (b ++ [128]) (by unfold padZ; simp; omega) (by unfold padZ; omega) (by unfold padZ; omega) (by unfold padZ; simp; omega)
end
section
theorem zel {α : Type} : ∀ (l m : List α) (i : Nat) (x : α), setL (l ++ m) (l.length + i) x = l ++ setL m i x
  | [], m, i, x => by simp
  | y :: l, m, i, x => by
    rw [List.length_cons, show l.length + 1 + i = (l.length + i) + 1 by omega]
    show y :: setL (l ++ m) (l.length + i) x = y :: (l ++ setL m i x)
    rw [zel l m i x]
theorem ziG (b : List UInt8) : zae (List.replicate (b.length + 3) (0 : UInt8)) 0 (List.take (b.length + 3) b) = b ++ [0, 0, 0] := by
  have e : List.take (b.length + 3) b = b := List.take_of_length_le (by omega)
  rw [e]
  unfold zae
  rw [List.take_zero, List.nil_append, Nat.zero_add, List.drop_replicate, show b.length + 3 - b.length = 3 by omega]
  rfl
abbrev Lp45 := (List UInt8) -> Nat -> Nat -> Int -> (List UInt8) -> Option ((List UInt8 × Nat) × Unit)
theorem ziH (N : Nat) (A : Lp45) (b : List UInt8) (i : Nat) (hb : b.length <= 400) (hi : i < b.length + 3) (l : List UInt8) : zhH N A b (b.length + 3) (b.length + 3) (i : Int) l = A b (b.length + 3) (b.length + 3) ((i + 1 : Nat) : Int) (setL l i 229) := by
  unfold zhH
  rw [zaA (show (i : Int) < ((b.length + 3 : Nat) : Int) by omega), cond_true, zaE, zbY (by omega), Int.toNat_natCast, Nat.zero_add]
  rfl
theorem zsn (N : Nat) (A : Lp45) (b l : List UInt8) (hl : l.length = b.length + 3) : zhH N A b (b.length + 3) (b.length + 3) ((b.length + 3 : Nat) : Int) l = some ((l, b.length), ()) := by
  unfold zhH
  rw [zaB (by omega), cond_false, hl]
  have h1 : bndc none (some (b.length : Int)) ((b.length + 3 : Nat) : Int) ((b.length + 3 : Nat) : Int) = true := by
    unfold bndc
    simp [leI]
    omega
  rw [h1, zaz (by omega), zaW (by omega), Int.toNat_natCast]
  rfl
theorem zqR {N : Nat} (hN : 100 <= N) {b : List UInt8} (hb : b.length <= 400) : q45 N b = some ((b ++ [229, 229, 229], b.length), ()) := by
  obtain ⟨M, rfl⟩ : ∃ M, N = M + 4 := ⟨N - 4, by omega⟩
  unfold q45
  have e0 : wr ((b.length : Int) + 3) = ((b.length + 3 : Nat) : Int) := by rw [zb9 (by omega) (by omega)]; omega
  rw [e0, zaE, zn2 rfl, Int.toNat_natCast, zaW (by omega), ziG]
  show zkl (M + 4) (M + 4) b (b.length + 3) (b.length + 3) (b.length : Int) (b ++ [0, 0, 0]) = _
  have s0 := zel b [(0 : UInt8), 0, 0] 0 229
  have s1 := zel b [(229 : UInt8), 0, 0] 1 229
  have s2 := zel b [(229 : UInt8), 229, 0] 2 229
  rw [zcO, ziH _ _ _ _ hb (by omega), show setL (b ++ [0, 0, 0]) b.length 229 = b ++ [229, 0, 0] from s0, zcO, ziH _ _ _ _ hb (by omega), show setL (b ++ [229, 0, 0]) (b.length + 1) 229 = b ++ [229, 229, 0] from s1,
    zcO, ziH _ _ _ _ hb (by omega), show setL (b ++ [229, 229, 0]) (b.length + 1 + 1) 229 = b ++ [229, 229, 229] from s2, zcO]
  exact zsn _ _ _ _ (by simp)
abbrev Lp47 := (List UInt8) -> Nat -> Nat -> Int -> (List UInt8) -> Option (Bool × Unit)
theorem zoU (b : List UInt8) (j : Nat) (hj : j < 3) : (b ++ [229, 229, 229]).getD (b.length + j) 0 = 229 := by
  rw [List.getD_eq_getElem?_getD, List.getElem?_append_right (by omega), show b.length + j - b.length = j by omega]
  have : j = 0 \/ j = 1 \/ j = 2 := by omega
  rcases this with rfl | rfl | rfl <;> rfl
theorem ziI (N : Nat) (A : Lp47) (b : List UInt8) (j : Nat) (hb : b.length <= 400) (hj : j < 3) : za1 N A b (b.length + 3) (b.length + 3) ((b.length + j : Nat) : Int) (b ++ [229, 229, 229]) = A b (b.length + 3) (b.length + 3) ((b.length + j + 1 : Nat) : Int) (b ++ [229, 229, 229]) := by
  unfold za1
  have e0 : wr ((b.length : Int) + 3) = ((b.length + 3 : Nat) : Int) := by rw [zb9 (by omega) (by omega)]; omega
  rw [e0, zaA (show ((b.length + j : Nat) : Int) < ((b.length + 3 : Nat) : Int) by omega), cond_true, zaE, zbY (by omega), Int.toNat_natCast, Nat.zero_add, zoU b j hj]
  rfl
theorem zso (N : Nat) (A : Lp47) (b : List UInt8) (hb : b.length <= 400) : za1 N A b (b.length + 3) (b.length + 3) ((b.length + 3 : Nat) : Int) (b ++ [229, 229, 229]) = some (true, ()) := by
  unfold za1
  have e0 : wr ((b.length : Int) + 3) = ((b.length + 3 : Nat) : Int) := by rw [zb9 (by omega) (by omega)]; omega
  rw [e0, zaB (by omega), cond_false]
theorem zqS {N : Nat} (hN : 100 <= N) {b : List UInt8} (hb : b.length <= 400) : zdw N (b ++ [229, 229, 229]) b.length b = some (true, ()) := by
  obtain ⟨M, rfl⟩ : ∃ M, N = M + 4 := ⟨N - 4, by omega⟩
  unfold zdw
  have hl : (b ++ [(229 : UInt8), 229, 229]).length = b.length + 3 := by simp
  have e0 : wr ((b.length : Int) + 3) = ((b.length + 3 : Nat) : Int) := by rw [zb9 (by omega) (by omega)]; omega
  have h1 : bndc none (some ((b.length + 3 : Nat) : Int)) (b.length : Int) ((b.length + 3 : Nat) : Int) = true := by
    unfold bndc
    simp [leI]
    omega
  have h2 : eqB (List.take b.length (List.drop 0 (b ++ [229, 229, 229]))) b = true := by
    unfold eqB
    simp
  rw [h2, hl, h1, zaz (by omega), e0, Int.toNat_natCast, zaB (by omega)]
  show zbF (M + 4) (M + 4) b (b.length + 3) (b.length + 3) ((b.length + 0 : Nat) : Int) (b ++ [229, 229, 229]) = _
  rw [zbg, ziI _ _ _ 0 hb (by omega), zbg, ziI _ _ _ 1 hb (by omega), zbg, ziI _ _ _ 2 hb (by omega), zbg]
  exact zso _ _ _ hb
theorem zkt (l : List UInt8) : eqL El.u8 l l = true := by
  induction l with
  | nil => rfl
  | cons x l ih =>
    show (eqE El.u8 x x && eqL El.u8 l l) = true
    rw [ih, show eqE El.u8 x x = true from beq_self_eq_true (α := UInt8) x]
    rfl
theorem zku (l : List UInt32) : eqL El.u32 l l = true := by
  induction l with
  | nil => rfl
  | cons x l ih =>
    show (eqE El.u32 x x && eqL El.u32 l l) = true
    rw [ih, show eqE El.u32 x x = true from beq_self_eq_true (α := UInt32) x]
    rfl
theorem zqT (b : List UInt8) (h : List UInt32) (c : List UInt8) (hh : h.length = 8) (hc : c.length = 64) : q4 2000 b h c = some (true, ()) := by
  unfold q4
  rw [hh, hc, zsi]
  simp only [bsm, Bool.not_true, cond_false]
  show cond (ltI 400 (b.length : Int)) (some (true, ())) _ = some (true, ())
  by_cases hb : 400 < b.length
  . rw [zaA (by omega), cond_true]
  . have hb : b.length <= 400 := by omega
    rw [zaB (by omega), cond_false, zqR (by omega) hb, bsm]
    have ht : List.take b.length (List.drop 0 (b ++ [229, 229, 229])) = b := by simp
    simp only [ht]
    rw [zsl (by omega) (by omega), zsm (by omega)]
    simp only [bsm, zkq]
    rw [zkt, zaW (Nat.le_refl _), zqS (by omega) hb, zpl (by omega) hh hc, zsk hh hc]
    simp only [bsm, zdX hh, zku]
    rfl
end
section
open Go.ChangeShapes Go.WideShapes Go.ChangeAt Go.RowKit
def zqU (P : Program) (k : K) (t : TypeId) : Prop :=
  ∀ (H : Type) (enc : TypeId × Value -> H) (W : World) (base : Nat) (v : Value) (d : DataW H) (p : List MemPlace), Value.okWide P W .any base t v -> DataW.Trod enc P W 0 (fun _ => true) true t v d p ->
    ∃ x : k.T, zfA W (fun b => b < W.heap.size) (k.enc x) v
theorem zfe {P : Program} {H : Type} {enc : TypeId × Value -> H} {W : World} {base : Nat} {sp : Nat -> Bool} {hd : Bool} : ∀ {ts : List TypeId} {vs : List Value} {ds : List (DataW H)} {p : List MemPlace}, DataW.TrodAll enc P W base sp hd ts vs ds p -> ds.length = ts.length
  | [], [], [], _, _ => rfl
  | _ :: _, _ :: _, _ :: _, _, ⟨_, _, _, h, _⟩ => by simp [zfe h]
  | [], _ :: _, _, _, h => by cases h
  | [], [], _ :: _, _, h => by cases h
  | _ :: _, [], _, _, h => by cases h
  | _ :: _, _ :: _, [], _, h => by cases h
structure NumEl where
  e : El
  k : IntKind
  of : Int -> e.T
  one : e.size = 1
  val : ∀ n, (Lit.int k n).wf = true -> ∃ c, e.toC (of n) = [c] /\ c.val = some (.int k n)
def ztJ : NumEl := ⟨.u8, .u8, fun n => UInt8.ofNat n.toNat, rfl, fun n hw => ⟨_, rfl, by
  have := bounds_u8 hw
  simp only [C.val, Option.some.injEq, Value.int.injEq, true_and]
  rw [UInt8.toNat_ofNat']
  omega⟩⟩
theorem zhM (m : NumEl) (zs : List Int) (hw : ∀ n ∈ zs, (Lit.int m.k n).wf = true) (j : Nat) (c : C) (h : (flat m.e (zs.map m.of))[j]? = some c) : j < zs.length /\ c.val = some (.int m.k (zs.getD j 0)) := by
  induction zs generalizing j with
  | nil => simp [flat] at h
  | cons z zs ih =>
    obtain ⟨c0, h1, h2⟩ := m.val z (hw z (by simp))
    simp only [List.map_cons, flat, h1] at h
    cases j with
    | zero =>
      simp at h
      subst h
      exact ⟨by simp, by simpa using h2⟩
    | succ j =>
      simp at h
      obtain ⟨h3, h4⟩ := ih (fun n hn => hw n (by simp [hn])) j h
      exact ⟨by simpa using h3, by simpa using h4⟩
theorem ziJ {P : Program} {t e : TypeId} (m : NumEl) (ht : P.underlying t = some (.slice e)) (he : P.underlying e = some (.int m.k)) (hc : P.cellsOf e = 1) : zqU P (K.ro m.e) t := fun H enc W base v d p hv h => by
  obtain ⟨ad, n, c, rfl⟩ := okWide_slice ht hv
  obtain ⟨fuel, hf⟩ := h
  rcases open_ints ht he hc hf with ⟨hcs, _⟩ | ⟨a, len, cap, zs, hcs, _, h1, h2, h3, _, h5, h6⟩
  . simp [Value.cells] at hcs
    obtain ⟨rfl, rfl, rfl⟩ := hcs
    exact ⟨[], .emp⟩
  . simp [Value.cells] at hcs
    obtain ⟨rfl, rfl, rfl⟩ := hcs
    simp only [if_true] at h3
    cases hn : n with
    | zero => exact ⟨[], .emp⟩
    | succ n' =>
      have hlen : ((zs.take n).map m.of).length = n := by simp; omega
      have h0 := h5 0 (by omega)
      have hspot : a.spot = none /\ a.block < W.heap.size := by
        have e0 : a.add 0 = a := by simp [Addr.add]
        rw [e0] at h0
        unfold World.cell? at h0
        split at h0
        . rename_i cs _ _ hb
          refine ⟨?_, (Array.getElem?_eq_some_iff.1 hb).1⟩
          cases hs : a.spot with
          | none => rfl
          | some q => rw [hs] at h0; simp at h0
        . cases h0
      obtain ⟨b, off, spot⟩ := a
      obtain ⟨hs, hb⟩ := hspot
      simp only at hs hb
      subst hs
      have hw : ∀ z ∈ zs.take n, (Lit.int m.k z).wf = true := fun z hz => h6 z (List.mem_of_mem_take hz)
      refine ⟨(zs.take n).map m.of, ?_⟩
      have := Holds.ro (w := W) (ok := fun b => b < W.heap.size) (e := m.e) (l := (zs.take n).map m.of) (b := b) (off := off) (cap := c) (fun j => .int m.k (zs.getD j 0)) (by rw [hlen]; exact h1) h2 hb (fun j c' hj => ?_) (fun j c' hj => ?_)
      . rw [hlen] at this
        rw [← hn]
        exact this
      . obtain ⟨q1, q2⟩ := zhM m _ hw j c' hj
        have := h5 j (by rw [List.length_take] at q1; omega)
        rw [zaq] at this
        exact this
      . obtain ⟨q1, q2⟩ := zhM m _ hw j c' hj
        rw [List.length_take] at q1
        refine .sc ?_
        rw [q2]
        congr 2
        simp only [List.getD_eq_getElem?_getD, List.getElem?_take]
        rw [if_pos (by omega)]
theorem zoV {P : Program} (hlaid : laidOutB P = true) {H : Type} {enc : TypeId × Value -> H} {fn : Func} {s : ChangeSpec} {apart fresh : Bool} {W W' : World} {args : Array Value} {ds gs : List (DataW H)} {before : List MemPlace} {tb : TypeId}
    (hread : ∀ t ∈ fn.params.toList, P.readableRec t = true /\ t < P.types.size) (hvars : s.vars = []) (hres : fn.resultTypes = #[tb]) (htb : P.underlying tb = some .bool)
    (hspec : s.fn H (ds ++ []) = { results := [.lit (.bool true)], args := ds })
    (hW : DataW.Whole enc P fn.params.toList s.vars apart W args.toList ds gs before) (hk : Kept W W') : s.post enc P fn apart fresh false false W args (.bool true) W' := by
  have hW' := hW
  obtain ⟨p, q, hA, hV, rfl, hz, hn⟩ := hW'
  rw [hvars] at hV
  obtain ⟨rfl, rfl⟩ := trodVars_none hV
  have hlt : ∀ x ∈ p, x.block < W.heap.size := fun x hx => hW.lt x (by simp [hx])
  have hbelow : Below W.heap.size W W' := ⟨hk.os, hk.tape, hk.output, hk.size, hk.block⟩
  have hargs : ∀ {ts : List TypeId} {vs : List Value} {ds : List (DataW H)} {p : List MemPlace}, (∀ t ∈ ts, P.readableRec t = true /\ t < P.types.size) -> DataW.TrodAll enc P W 0 (fun _ => true) true ts vs ds p -> (∀ x ∈ p, x.block < W.heap.size) ->
      DataW.TrodAll enc P W' 0 (fun b => decide (b < W.heap.size)) true ts vs ds p := by
    intro ts
    induction ts with
    | nil => intro vs ds p _ h _; cases vs <;> cases ds <;> first | exact h | exact h.elim
    | cons t ts ih =>
      intro vs ds p hr h hl
      cases vs with
      | nil => cases ds <;> exact h.elim
      | cons v vs => cases ds with
        | nil => exact h.elim
        | cons d ds =>
          obtain ⟨p1, q1, h1, h2, rfl⟩ := h
          exact ⟨p1, q1, Below.trod hlaid (hr t (by simp)).1 (hr t (by simp)).2 h1 hbelow (fun x hx => hl x (by simp [hx])), ih (fun t ht => hr t (by simp [ht])) h2 (fun x hx => hl x (by simp [hx])), rfl⟩
  have hkeep : W.keptBut W' (fun _ => False) := by
    refine ⟨hk.os, hk.output, fun i hi => ?_⟩
    rw [hk.block i hi]
    cases hb : W.heap[i]? with
    | none => trivial
    | some o => cases o <;> simp
  refine ⟨ds, [], p ++ [], [], p, [], hW, ?_, ?_, ?_, World.keptBut_mono (fun _ h => h.elim) hkeep, fun h => by cases h⟩
  . rw [hspec, hres]
    refine ⟨[], [], ⟨1, ?_⟩, rfl, rfl⟩
    simp [DataW.trod, htb, Value.cells, Value.resultList]
  . rw [hspec]
    exact hargs hread hA hlt
  . rw [hspec, hvars]
    rfl
end
section
open Go.ChangeShapes Go.WideShapes Go.ChangeAt Go.RowKit
theorem own : ownKnob Try.prog.godebug = none := by kernel_rfl
theorem laid : laidOutB Try.pinned.checked.prog = true := by kernel_rfl
theorem ztK : mapsRowed Try.pinned.checked.prog = true := by kernel_rfl
theorem ztL : Try.pinned.checked.prog.stopsHeard = true := by kernel_rfl
theorem zkv : Try.pinned.checked.prog.mayEnter = true := zkC
theorem zqV : zqU Try.prog (K.ro .u8) 24 := ziJ ztJ Try.underlying24 Try.underlying5 (by kernel_rfl)
end
end Go.Proofs.Ytgimohchocjgcaa.V
