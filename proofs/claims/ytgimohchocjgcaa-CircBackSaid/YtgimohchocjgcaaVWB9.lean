import Derived.Test.YtgimohchocjgcaaVBQ1
import Derived.Test.YtgimohchocjgcaaVWB4
import Derived.Test.YtgimohchocjgcaaVWB8
import Derived.KernelRfl
set_option linter.unusedVariables false
set_option linter.unusedSimpArgs false
namespace Go.Proofs.Ytgimohchocjgcaa.V
section
abbrev RS := List UInt8 × Int
abbrev Ps (α : Type) := List UInt8 -> Int -> RS × α
def upR {α : Type} (x : RS × α) : (List UInt8 × Int × Unit) × α × Unit := ((x.1.1, x.1.2, ()), x.2, ())
def bnd {α β : Type} (p : Ps α) (q : α -> Ps β) : Ps β := fun l e => q (p l e).2 (p l e).1.1 (p l e).1.2
def ret {α : Type} (a : α) : Ps α := fun l e => ((l, e), a)
def stk (e v : Int) : Int := if e = 0 then v else e
theorem zhz (l : List UInt8) (e v : Int) : zaV 2000 l e v = some ((l, stk e v, ()), ()) := by
  unfold zaV stk
  by_cases h : e = 0
  . rw [zaI h, cond_true, if_pos h]
  . rw [zaZ h, cond_false, if_neg h]
def tkP (n : Nat) : Ps (List UInt8) := fun l e => if e = 0 then (if l.length < n then ((l, 2), List.replicate n 0) else ((l.drop n, 0), l.take n)) else ((l, e), List.replicate n 0)
theorem zye (n : Nat) (l : List UInt8) (e : Int) : (tkP n l e).2.length = n := by
  unfold tkP
  split
  . split
    . simp
    . simp; omega
  . simp
theorem zsz (n : Nat) (hn : n < 1000) (l : List UInt8) (e : Int) : zdU 2000 l e (n : Int) = some (upR (tkP n l e)) := by
  have m1 : (leI (0 : Int) (n : Int) && (eqI (n : Int) (n : Int) && leN (n * 1) 140737488355328)) = true := by
    rw [zaq, zaI rfl, zay (by omega)]; rfl
  unfold zdU
  by_cases hl : l.length < n
  . rw [zae (by omega), cond_true, zhz, bsm]
    have h0 : ¬ stk e 2 = 0 := by unfold stk; split <;> omega
    simp only [zaZ h0, Bool.not_false, cond_true, Int.toNat_natCast, m1, mst2]
    unfold upR tkP stk
    by_cases he : e = 0
    . rw [if_pos he, if_pos he, if_pos hl]
    . rw [if_neg he, if_neg he]
  . rw [zad (by omega), cond_false]
    by_cases he : e = 0
    . subst he
      have m2 : (leI (0 : Int) (n : Int) && leI (n : Int) (l.length : Int)) = true := by rw [zaq, zbp (by omega)]; rfl
      have m3 : (leI (0 : Int) (n : Int) && (leI (n : Int) (l.length : Int) && leI (l.length : Int) (l.length : Int))) = true := by rw [zaq, zbp (by omega), zbp (by omega)]; rfl
      simp only [zaI rfl, Bool.not_true, cond_false, m2, m3, mst2, Int.toNat_natCast, Int.sub_zero]
      unfold upR tkP
      rw [if_pos rfl, if_neg hl]
      rw [List.take_of_length_le (by simp)]
    . simp only [zaZ he, Bool.not_false, cond_true, Int.toNat_natCast, m1, mst2]
      unfold upR tkP
      rw [if_neg he]
def octP : Ps Int := fun l e => ((tkP 1 l e).1, (((tkP 1 l e).2.getD 0 0).toNat : Int))
theorem zdJ (l : List UInt8) (e : Int) : za8 2000 l e = some (upR (octP l e)) := by
  unfold za8
  have h := zsz 1 (by omega) l e
  rw [show ((1 : Nat) : Int) = 1 from rfl] at h
  rw [h, bsm]
  have hl := zye 1 l e
  simp only [upR]
  rw [hl, zae (by omega), mst2]
  cases eqI (tkP 1 l e).1.2 0 <;> rfl
def selP : Ps Fr := fun l e => (((tkP 32 l e).1.1, if (tkF (tkP 32 l e).2).2.1 = 0 then (if (tkF (tkP 32 l e).2).1 = Fr.zero then stk (tkP 32 l e).1.2 3 else (tkP 32 l e).1.2) else stk (tkP 32 l e).1.2 (tkF (tkP 32 l e).2).2.1), (tkF (tkP 32 l e).2).1)
theorem zyf (l : List UInt8) (e : Int) : zbk 2000 l e = some (upR (selP l e)) := by
  unfold zbk
  have h := zsz 32 (by omega) l e
  rw [show ((32 : Nat) : Int) = 32 from rfl] at h
  rw [h, bsm]
  unfold selP
  simp only [upR]
  generalize tkP 32 l e = t
  rw [zx5]
  simp only [bsm]
  generalize tkF t.2 = x
  have key : (cond (!eqI x.2.1 0) (Option.bind (zaV 2000 t.1.1 t.1.2 x.2.1) fun rr6 => some ((rr6.1.1, rr6.1.2.1, ()), x.1, ())) (cond (eqF x.1 (Fr.mk 0 0 0 0)) (Option.bind (zaV 2000 t.1.1 t.1.2 3) fun rr5 => some ((rr5.1.1, rr5.1.2.1, ()), x.1, ())) (some ((t.1.1, t.1.2, ()), x.1, ()))) : Option ((List UInt8 × Int × Unit) × Fr × Unit)) = some ((t.1.1, if x.2.1 = 0 then (if x.1 = Fr.zero then stk t.1.2 3 else t.1.2) else stk t.1.2 x.2.1, ()), x.1, ()) := by
    by_cases h1 : x.2.1 = 0
    . rw [zaI h1, Bool.not_true, cond_false, if_pos h1]
      by_cases h2 : x.1 = Fr.zero
      . rw [znT (show x.1 = ⟨0, 0, 0, 0⟩ from h2), cond_true, if_pos h2, zhz, bsm]
      . rw [zhk (show x.1 ≠ ⟨0, 0, 0, 0⟩ from h2), cond_false, if_neg h2]
    . rw [zaZ h1, Bool.not_false, cond_true, if_neg h1, zhz, bsm]
  cases eqI t.1.2 0 <;> exact key
def bitM (m k : Int) : Bool := eqI (bitI BinOp.and (shrI m (UInt64.toNat (u64I k))) 1) 1
def zdy (m : Int) : List Bool := [bitM m 0, bitM m 1, bitM m 2, bitM m 3, bitM m 4, bitM m 5, bitM m 6, bitM m 7]
def zeo (b : Bool) : Ps Fr := fun l e => cond b (selP l e) ((l, e), Fr.zero)
def zhM : List Bool -> Ps (List Fr)
  | [] => ret []
  | b :: bs => bnd (zeo b) fun x => bnd (zhM bs) fun t => ret (x :: t)
def mkR (t : List Fr) (a b c : Int) : Row := ⟨t.getD 0 Fr.zero, t.getD 1 Fr.zero, t.getD 2 Fr.zero, t.getD 3 Fr.zero, t.getD 4 Fr.zero, t.getD 5 Fr.zero, t.getD 6 Fr.zero, t.getD 7 Fr.zero, a, b, c⟩
def wP : Ps Int := fun l e => ((octP l e).1, if (octP l e).2 = 255 then -1 else (octP l e).2)
def wsP (t : List Fr) : Ps Row := bnd wP fun a => bnd wP fun b => bnd wP fun c => ret (mkR t a b c)
def rowP : Ps Row := bnd octP fun m => bnd (zhM (zdy m)) wsP
abbrev zuY := Int -> (List UInt8) -> Int -> Row -> Row -> Option ((List UInt8 × Int × Unit) × Row × Unit)
abbrev zk9 := Int -> Int -> (List UInt8) -> Int -> Row -> Row -> Option ((List UInt8 × Int × Unit) × Row × Unit)
theorem zf8 (b : Bool) (l : List UInt8) (e : Int) (f : List UInt8 -> Int -> Fr -> Option ((List UInt8 × Int × Unit) × Row × Unit)) : cond b (Option.bind (zbk 2000 l e) fun rr0 => f rr0.1.1 rr0.1.2.1 rr0.2.1) (f l e Fr.zero) = f (zeo b l e).1.1 (zeo b l e).1.2 (zeo b l e).2 := by
  cases b with
  | true => rw [cond_true, zyf, bsm]; rfl
  | false => rfl
theorem zBd (N : Nat) (A : zk9) (m : Int) (l : List UInt8) (e : Int) (o1 : Row) : zaN N A m 0 l e o1 ⟨Fr.zero, Fr.zero, Fr.zero, Fr.zero, Fr.zero, Fr.zero, Fr.zero, Fr.zero, 0, 0, 0⟩ = cond (bitM m 0) (Option.bind (zbk N l e) fun rr0 => A m 1 rr0.1.1 rr0.1.2.1 o1 ⟨rr0.2.1, Fr.zero, Fr.zero, Fr.zero, Fr.zero, Fr.zero, Fr.zero, Fr.zero, 0, 0, 0⟩) (A m 1 l e o1 ⟨Fr.zero, Fr.zero, Fr.zero, Fr.zero, Fr.zero, Fr.zero, Fr.zero, Fr.zero, 0, 0, 0⟩) := by kernel_rfl
theorem zBe (N : Nat) (A : zk9) (m : Int) (l : List UInt8) (e : Int) (o1 : Row) (x0 : Fr) : zaN N A m 1 l e o1 ⟨x0, Fr.zero, Fr.zero, Fr.zero, Fr.zero, Fr.zero, Fr.zero, Fr.zero, 0, 0, 0⟩ = cond (bitM m 1) (Option.bind (zbk N l e) fun rr0 => A m 2 rr0.1.1 rr0.1.2.1 o1 ⟨x0, rr0.2.1, Fr.zero, Fr.zero, Fr.zero, Fr.zero, Fr.zero, Fr.zero, 0, 0, 0⟩) (A m 2 l e o1 ⟨x0, Fr.zero, Fr.zero, Fr.zero, Fr.zero, Fr.zero, Fr.zero, Fr.zero, 0, 0, 0⟩) := by kernel_rfl
theorem zBf (N : Nat) (A : zk9) (m : Int) (l : List UInt8) (e : Int) (o1 : Row) (x0 x1 : Fr) : zaN N A m 2 l e o1 ⟨x0, x1, Fr.zero, Fr.zero, Fr.zero, Fr.zero, Fr.zero, Fr.zero, 0, 0, 0⟩ = cond (bitM m 2) (Option.bind (zbk N l e) fun rr0 => A m 3 rr0.1.1 rr0.1.2.1 o1 ⟨x0, x1, rr0.2.1, Fr.zero, Fr.zero, Fr.zero, Fr.zero, Fr.zero, 0, 0, 0⟩) (A m 3 l e o1 ⟨x0, x1, Fr.zero, Fr.zero, Fr.zero, Fr.zero, Fr.zero, Fr.zero, 0, 0, 0⟩) := by kernel_rfl
theorem zBg (N : Nat) (A : zk9) (m : Int) (l : List UInt8) (e : Int) (o1 : Row) (x0 x1 x2 : Fr) : zaN N A m 3 l e o1 ⟨x0, x1, x2, Fr.zero, Fr.zero, Fr.zero, Fr.zero, Fr.zero, 0, 0, 0⟩ = cond (bitM m 3) (Option.bind (zbk N l e) fun rr0 => A m 4 rr0.1.1 rr0.1.2.1 o1 ⟨x0, x1, x2, rr0.2.1, Fr.zero, Fr.zero, Fr.zero, Fr.zero, 0, 0, 0⟩) (A m 4 l e o1 ⟨x0, x1, x2, Fr.zero, Fr.zero, Fr.zero, Fr.zero, Fr.zero, 0, 0, 0⟩) := by kernel_rfl
theorem zBh (N : Nat) (A : zk9) (m : Int) (l : List UInt8) (e : Int) (o1 : Row) (x0 x1 x2 x3 : Fr) : zaN N A m 4 l e o1 ⟨x0, x1, x2, x3, Fr.zero, Fr.zero, Fr.zero, Fr.zero, 0, 0, 0⟩ = cond (bitM m 4) (Option.bind (zbk N l e) fun rr0 => A m 5 rr0.1.1 rr0.1.2.1 o1 ⟨x0, x1, x2, x3, rr0.2.1, Fr.zero, Fr.zero, Fr.zero, 0, 0, 0⟩) (A m 5 l e o1 ⟨x0, x1, x2, x3, Fr.zero, Fr.zero, Fr.zero, Fr.zero, 0, 0, 0⟩) := by kernel_rfl
theorem zBi (N : Nat) (A : zk9) (m : Int) (l : List UInt8) (e : Int) (o1 : Row) (x0 x1 x2 x3 x4 : Fr) : zaN N A m 5 l e o1 ⟨x0, x1, x2, x3, x4, Fr.zero, Fr.zero, Fr.zero, 0, 0, 0⟩ = cond (bitM m 5) (Option.bind (zbk N l e) fun rr0 => A m 6 rr0.1.1 rr0.1.2.1 o1 ⟨x0, x1, x2, x3, x4, rr0.2.1, Fr.zero, Fr.zero, 0, 0, 0⟩) (A m 6 l e o1 ⟨x0, x1, x2, x3, x4, Fr.zero, Fr.zero, Fr.zero, 0, 0, 0⟩) := by kernel_rfl
theorem zBj (N : Nat) (A : zk9) (m : Int) (l : List UInt8) (e : Int) (o1 : Row) (x0 x1 x2 x3 x4 x5 : Fr) : zaN N A m 6 l e o1 ⟨x0, x1, x2, x3, x4, x5, Fr.zero, Fr.zero, 0, 0, 0⟩ = cond (bitM m 6) (Option.bind (zbk N l e) fun rr0 => A m 7 rr0.1.1 rr0.1.2.1 o1 ⟨x0, x1, x2, x3, x4, x5, rr0.2.1, Fr.zero, 0, 0, 0⟩) (A m 7 l e o1 ⟨x0, x1, x2, x3, x4, x5, Fr.zero, Fr.zero, 0, 0, 0⟩) := by kernel_rfl
theorem zBk (N : Nat) (A : zk9) (m : Int) (l : List UInt8) (e : Int) (o1 : Row) (x0 x1 x2 x3 x4 x5 x6 : Fr) : zaN N A m 7 l e o1 ⟨x0, x1, x2, x3, x4, x5, x6, Fr.zero, 0, 0, 0⟩ = cond (bitM m 7) (Option.bind (zbk N l e) fun rr0 => zaz N N 0 rr0.1.1 rr0.1.2.1 o1 ⟨x0, x1, x2, x3, x4, x5, x6, rr0.2.1, 0, 0, 0⟩) (zaz N N 0 l e o1 ⟨x0, x1, x2, x3, x4, x5, x6, Fr.zero, 0, 0, 0⟩) := by kernel_rfl
theorem zuZ (m : Int) (l : List UInt8) (e : Int) (o1 : Row) : zaE 2000 2000 m 0 l e o1 zrow = zaz 2000 2000 0 (zhM (zdy m) l e).1.1 (zhM (zdy m) l e).1.2 o1 (mkR (zhM (zdy m) l e).2 0 0 0) := by
  show zaE 2000 (1992 + 1 + 1 + 1 + 1 + 1 + 1 + 1 + 1) m 0 l e o1 ⟨Fr.zero, Fr.zero, Fr.zero, Fr.zero, Fr.zero, Fr.zero, Fr.zero, Fr.zero, 0, 0, 0⟩ = _
  rw [zaL, zBd, zf8 (bitM m 0) l e (fun l e y => zaE 2000 _ m 1 l e o1 ⟨y, Fr.zero, Fr.zero, Fr.zero, Fr.zero, Fr.zero, Fr.zero, Fr.zero, 0, 0, 0⟩)]
  generalize hs0 : zeo (bitM m 0) l e = s0
  rw [zaL, zBe, zf8 (bitM m 1) s0.1.1 s0.1.2 (fun l e y => zaE 2000 _ m 2 l e o1 ⟨s0.2, y, Fr.zero, Fr.zero, Fr.zero, Fr.zero, Fr.zero, Fr.zero, 0, 0, 0⟩)]
  generalize hs1 : zeo (bitM m 1) s0.1.1 s0.1.2 = s1
  rw [zaL, zBf, zf8 (bitM m 2) s1.1.1 s1.1.2 (fun l e y => zaE 2000 _ m 3 l e o1 ⟨s0.2, s1.2, y, Fr.zero, Fr.zero, Fr.zero, Fr.zero, Fr.zero, 0, 0, 0⟩)]
  generalize hs2 : zeo (bitM m 2) s1.1.1 s1.1.2 = s2
  rw [zaL, zBg, zf8 (bitM m 3) s2.1.1 s2.1.2 (fun l e y => zaE 2000 _ m 4 l e o1 ⟨s0.2, s1.2, s2.2, y, Fr.zero, Fr.zero, Fr.zero, Fr.zero, 0, 0, 0⟩)]
  generalize hs3 : zeo (bitM m 3) s2.1.1 s2.1.2 = s3
  rw [zaL, zBh, zf8 (bitM m 4) s3.1.1 s3.1.2 (fun l e y => zaE 2000 _ m 5 l e o1 ⟨s0.2, s1.2, s2.2, s3.2, y, Fr.zero, Fr.zero, Fr.zero, 0, 0, 0⟩)]
  generalize hs4 : zeo (bitM m 4) s3.1.1 s3.1.2 = s4
  rw [zaL, zBi, zf8 (bitM m 5) s4.1.1 s4.1.2 (fun l e y => zaE 2000 _ m 6 l e o1 ⟨s0.2, s1.2, s2.2, s3.2, s4.2, y, Fr.zero, Fr.zero, 0, 0, 0⟩)]
  generalize hs5 : zeo (bitM m 5) s4.1.1 s4.1.2 = s5
  rw [zaL, zBj, zf8 (bitM m 6) s5.1.1 s5.1.2 (fun l e y => zaE 2000 _ m 7 l e o1 ⟨s0.2, s1.2, s2.2, s3.2, s4.2, s5.2, y, Fr.zero, 0, 0, 0⟩)]
  generalize hs6 : zeo (bitM m 6) s5.1.1 s5.1.2 = s6
  rw [zaL, zBk, zf8 (bitM m 7) s6.1.1 s6.1.2 (fun l e y => zaz 2000 2000 0 l e o1 ⟨s0.2, s1.2, s2.2, s3.2, s4.2, s5.2, s6.2, y, 0, 0, 0⟩)]
  generalize hs7 : zeo (bitM m 7) s6.1.1 s6.1.2 = s7
  have hk : zhM (zdy m) l e = (s7.1, [s0.2, s1.2, s2.2, s3.2, s4.2, s5.2, s6.2, s7.2]) := by
    simp only [zhM, zdy, bnd, ret, hs0, hs1, hs2, hs3, hs4, hs5, hs6, hs7]
  rw [hk]
  rfl
theorem zyg (N : Nat) (A : zuY) (l : List UInt8) (e : Int) (o1 : Row) (t : List Fr) : zbI N A 0 l e o1 (mkR t 0 0 0) = Option.bind (za8 N l e) fun rr0 => cond (eqI rr0.2.1 255) (A 1 rr0.1.1 rr0.1.2.1 o1 (mkR t (-1) 0 0)) (A 1 rr0.1.1 rr0.1.2.1 o1 (mkR t rr0.2.1 0 0)) := by kernel_rfl
theorem zyh (N : Nat) (A : zuY) (l : List UInt8) (e : Int) (o1 : Row) (t : List Fr) (a : Int) : zbI N A 1 l e o1 (mkR t a 0 0) = Option.bind (za8 N l e) fun rr0 => cond (eqI rr0.2.1 255) (A 2 rr0.1.1 rr0.1.2.1 o1 (mkR t a (-1) 0)) (A 2 rr0.1.1 rr0.1.2.1 o1 (mkR t a rr0.2.1 0)) := by kernel_rfl
theorem zyi (N : Nat) (A : zuY) (l : List UInt8) (e : Int) (o1 : Row) (t : List Fr) (a b : Int) : zbI N A 2 l e o1 (mkR t a b 0) = Option.bind (za8 N l e) fun rr0 => cond (eqI rr0.2.1 255) (A 3 rr0.1.1 rr0.1.2.1 o1 (mkR t a b (-1))) (A 3 rr0.1.1 rr0.1.2.1 o1 (mkR t a b rr0.2.1)) := by kernel_rfl
theorem zyj (N : Nat) (A : zuY) (l : List UInt8) (e : Int) (o1 r : Row) : zbI N A 3 l e o1 r = some ((l, e, ()), r, ()) := by kernel_rfl
theorem w_q (l : List UInt8) (e : Int) (f : List UInt8 -> Int -> Int -> Option ((List UInt8 × Int × Unit) × Row × Unit)) : (Option.bind (za8 2000 l e) fun rr0 => cond (eqI rr0.2.1 255) (f rr0.1.1 rr0.1.2.1 (-1)) (f rr0.1.1 rr0.1.2.1 rr0.2.1)) = f (wP l e).1.1 (wP l e).1.2 (wP l e).2 := by
  rw [zdJ, bsm]
  unfold wP upR
  by_cases h : (octP l e).2 = 255
  . rw [zaI h, cond_true, if_pos h]
  . rw [zaZ h, cond_false, if_neg h]
theorem zBl (l : List UInt8) (e : Int) (o1 : Row) (t : List Fr) : zaz 2000 2000 0 l e o1 (mkR t 0 0 0) = some (upR (wsP t l e)) := by
  show zaz 2000 (1996 + 1 + 1 + 1 + 1) 0 l e o1 (mkR t 0 0 0) = _
  rw [zb1, zyg, w_q l e (fun l e y => zaz 2000 _ 1 l e o1 (mkR t y 0 0))]
  generalize h0 : wP l e = s0
  rw [zb1, zyh, w_q s0.1.1 s0.1.2 (fun l e y => zaz 2000 _ 2 l e o1 (mkR t s0.2 y 0))]
  generalize h1 : wP s0.1.1 s0.1.2 = s1
  rw [zb1, zyi, w_q s1.1.1 s1.1.2 (fun l e y => zaz 2000 _ 3 l e o1 (mkR t s0.2 s1.2 y))]
  generalize h2 : wP s1.1.1 s1.1.2 = s2
  rw [zb1, zyj]
  simp only [wsP, bnd, ret, upR, h0, h1, h2]
theorem zBm (l : List UInt8) (e : Int) : ze6 2000 l e = some (upR (rowP l e)) := by
  unfold ze6
  rw [zdJ, bsm]
  simp only [upR]
  rw [zuZ, zBl]
  rfl
def zbl : Nat -> Ps (List Row)
  | 0 => ret []
  | n + 1 => fun l e => if e = 0 then bnd rowP (fun r => bnd (zbl n) fun t => ret (r :: t)) l e else ((l, e), [])
def prP : Ps Pr := bnd octP fun a => bnd octP fun b => ret ⟨a, b⟩
def prsP : Nat -> Ps (List Pr)
  | 0 => ret []
  | n + 1 => fun l e => if e = 0 then bnd prP (fun r => bnd (prsP n) fun t => ret (r :: t)) l e else ((l, e), [])
abbrev Circ := Int × Int × List Row × List Pr × Unit
theorem zla : ∀ (n : Nat) (l : List UInt8) (e : Int), (zbl n l e).2.length <= n
  | 0, _, _ => Nat.le_refl _
  | n + 1, l, e => by
    unfold zbl
    split
    . simp only [bnd, ret, List.length_cons]
      exact Nat.succ_le_succ (zla n _ _)
    . exact Nat.zero_le _
def endE (c0 v1 : Int) (v2 : List Row) (v3 : List Pr) (l : List UInt8) (e : Int) : Int := cond (ltI 0 (l.length : Int)) (stk (if e = 0 then mayF c0 v1 v2 v3 else e) 3) (if e = 0 then mayF c0 v1 v2 v3 else e)
def endP (c0 v1 : Int) (v2 : List Row) (v3 : List Pr) (l : List UInt8) (e : Int) : Circ × Int × Unit := if endE c0 v1 v2 v3 l e = 0 then ((c0, v1, v2, v3, ()), 0, ()) else ((0, 0, [], [], ()), endE c0 v1 v2 v3 l e, ())
theorem zBn (c0 v1 : Int) (v2 : List Row) (v3 : List Pr) (l : List UInt8) (e : Int) : (cond (ltI 0 (l.length : Int)) (Option.bind (zaV 2000 l e 3) fun rr3 => cond (!eqI rr3.1.2.1 0) (some ((0, 0, [], [], ()), rr3.1.2.1, ())) (some ((c0, v1, v2, v3, ()), 0, ()))) (cond (!eqI e 0) (some ((0, 0, [], [], ()), e, ())) (some ((c0, v1, v2, v3, ()), 0, ()))) : Option (Circ × Int × Unit)) = some (if cond (ltI 0 (l.length : Int)) (stk e 3) e = 0 then ((c0, v1, v2, v3, ()), 0, ()) else ((0, 0, [], [], ()), cond (ltI 0 (l.length : Int)) (stk e 3) e, ())) := by
  cases ltI 0 (l.length : Int) with
  | true =>
    rw [cond_true, cond_true, zhz, bsm]
    simp only []
    by_cases h : stk e 3 = 0
    . rw [zaI h, if_pos h]; rfl
    . rw [zaZ h, if_neg h]; rfl
  | false =>
    rw [cond_false, cond_false]
    by_cases h : e = 0
    . rw [zaI h, if_pos h]; rfl
    . rw [zaZ h, if_neg h]; rfl
theorem zvR (c0 v1 : Int) (v2 : List Row) (v3 : List Pr) (h2 : v2.length < 1000) (h3 : v3.length < 1000) (l : List UInt8) (e : Int) : (cond (eqI e 0) (Option.bind (q119 2000 c0 v1 v2 v3) fun rr1 => Option.bind (zaV 2000 l e rr1.1) fun rr2 => cond (ltI 0 (rr2.1.1.length : Int)) (Option.bind (zaV 2000 rr2.1.1 rr2.1.2.1 3) fun rr3 => cond (!eqI rr3.1.2.1 0) (some ((0, 0, [], [], ()), rr3.1.2.1, ())) (some ((c0, v1, v2, v3, ()), 0, ()))) (cond (!eqI rr2.1.2.1 0) (some ((0, 0, [], [], ()), rr2.1.2.1, ())) (some ((c0, v1, v2, v3, ()), 0, ()))))
    (cond (ltI 0 (l.length : Int)) (Option.bind (zaV 2000 l e 3) fun rr0 => cond (!eqI rr0.1.2.1 0) (some ((0, 0, [], [], ()), rr0.1.2.1, ())) (some ((c0, v1, v2, v3, ()), 0, ()))) (cond (!eqI e 0) (some ((0, 0, [], [], ()), e, ())) (some ((c0, v1, v2, v3, ()), 0, ())))) : Option (Circ × Int × Unit)) = some (endP c0 v1 v2 v3 l e) := by
  unfold endP endE
  by_cases h : e = 0
  . subst h
    rw [zaI rfl, cond_true, zsy (N := 2000) (Nat.le_refl _) c0 v1 v2 v3 h2 h3, bsm, zhz, bsm, if_pos rfl]
    exact zBn c0 v1 v2 v3 l (mayF c0 v1 v2 v3)
  . rw [if_neg h]
    exact (congrArg (fun b => cond b _ _) (zaZ h)).trans (zBn c0 v1 v2 v3 l e)
theorem zsA (n : Nat) (hn : n < 300) (z0 z1 c0 v1 : Int) (o3 : List Row) (o4 : List Pr) (v2 : List Row) (h2 : v2.length < 1000) : ∀ (d i f : Nat) (l : List UInt8) (e : Int) (acc : List Pr), i + d = n -> d < f -> acc.length <= i ->
    zf6 2000 f (n : Int) (i : Int) z0 z1 l e c0 v1 o3 o4 v2 acc = some (endP c0 v1 v2 (acc ++ (prsP d l e).2) (prsP d l e).1.1 (prsP d l e).1.2)
  | 0, i, f + 1, l, e, acc, hi, hf, ha => by
    rw [zht]
    unfold ziK
    rw [zad (by omega), cond_false]
    refine (zvR c0 v1 v2 acc h2 (by omega) l e).trans ?_
    simp only [prsP, ret, List.append_nil]
  | d + 1, i, f + 1, l, e, acc, hi, hf, ha => by
    rw [zht]
    unfold ziK
    rw [zae (by omega), cond_true]
    by_cases he : e = 0
    . subst he
      rw [zaI rfl, cond_true, zdJ, bsm]
      simp only [upR]
      generalize h0 : octP l 0 = s0
      rw [zdJ, bsm]
      simp only [upR]
      generalize h1 : octP s0.1.1 s0.1.2 = s1
      rw [zay (by simp; omega), mst2, zaD (by omega), zsA n hn z0 z1 c0 v1 o3 o4 v2 h2 d (i + 1) f s1.1.1 s1.1.2 (acc ++ [Pr.mk s0.2 s1.2]) (by omega) (by omega) (by simp; omega)]
      simp only [prsP, prP, bnd, ret, if_true, h0, h1, List.append_assoc, List.singleton_append]
    . rw [zaZ he, cond_false]
      have hx := zvR c0 v1 v2 acc h2 (by omega) l e
      rw [zaZ he, cond_false] at hx
      simp only [zaZ he, cond_false]
      refine hx.trans ?_
      simp only [prsP, if_neg he, List.append_nil]
theorem znV (n m : Nat) (hn : n < 300) (hm : m < 300) (z0 z1 c0 v1 : Int) (o3 : List Row) (o4 : List Pr) : ∀ (d i f : Nat) (l : List UInt8) (e : Int) (acc : List Row), i + d = n -> d < f -> acc.length <= i ->
    ziM 2000 f (n : Int) (m : Int) (i : Int) z0 z1 l e c0 v1 o3 o4 acc [] = zf6 2000 2000 (m : Int) 0 z0 z1 (zbl d l e).1.1 (zbl d l e).1.2 c0 v1 o3 o4 (acc ++ (zbl d l e).2) []
  | 0, i, f + 1, l, e, acc, hi, hf, ha => by
    rw [zhu]
    unfold ziL
    rw [zad (by omega), cond_false]
    simp only [zbl, ret, List.append_nil]
  | d + 1, i, f + 1, l, e, acc, hi, hf, ha => by
    rw [zhu]
    unfold ziL
    rw [zae (by omega), cond_true]
    by_cases he : e = 0
    . subst he
      rw [zaI rfl, cond_true, zBm, bsm]
      simp only [upR]
      rw [zay (by simp; omega), mst2, zaD (by omega), znV n m hn hm z0 z1 c0 v1 o3 o4 d (i + 1) f (rowP l 0).1.1 (rowP l 0).1.2 (acc ++ [(rowP l 0).2]) (by omega) (by omega) (by simp; omega)]
      simp only [zbl, bnd, ret, if_true, List.append_assoc, List.singleton_append]
    . rw [zaZ he, cond_false]
      simp only [zbl, if_neg he, List.append_nil]
def zdA : Ps Circ := bnd octP fun c0 => bnd octP fun v1 => bnd octP fun n => bnd octP fun m => bnd (zbl n.toNat) fun v2 => bnd (prsP m.toNat) fun v3 => ret (c0, v1, v2, v3, ())
theorem znW (l : List UInt8) (e : Int) : ∃ n : Nat, n < 256 /\ (octP l e).2 = (n : Int) := ⟨_, UInt8.toNat_lt _, rfl⟩
theorem zjO (l : List UInt8) : q140 2000 l = some (endP (zdA l 0).2.1 (zdA l 0).2.2.1 (zdA l 0).2.2.2.1 (zdA l 0).2.2.2.2.1 (zdA l 0).1.1 (zdA l 0).1.2) := by
  unfold q140
  rw [zdJ, bsm]; simp only [upR]
  generalize h0 : octP l 0 = s0
  rw [zdJ, bsm]; simp only [upR]
  generalize h1 : octP s0.1.1 s0.1.2 = s1
  rw [zdJ, bsm]; simp only [upR]
  generalize h2 : octP s1.1.1 s1.1.2 = s2
  rw [zdJ, bsm]; simp only [upR]
  generalize h3 : octP s2.1.1 s2.1.2 = s3
  obtain ⟨n, hn, e2⟩ := znW s1.1.1 s1.1.2
  obtain ⟨m, hm, e3⟩ := znW s2.1.1 s2.1.2
  rw [h2] at e2
  rw [h3] at e3
  have hlr := zla n s3.1.1 s3.1.2
  rw [e2, e3]
  refine (znV n m (by omega) (by omega) 0 0 s0.2 s1.2 [] [] n 0 2000 s3.1.1 s3.1.2 [] (by omega) (by omega) (by simp)).trans ?_
  rw [List.nil_append]
  refine (zsA m (by omega) 0 0 s0.2 s1.2 [] [] _ (by omega) m 0 2000 _ _ [] (by omega) (by omega) (by simp)).trans ?_
  have hc : zdA l 0 = ((prsP m (zbl n s3.1.1 s3.1.2).1.1 (zbl n s3.1.1 s3.1.2).1.2).1, (s0.2, s1.2, (zbl n s3.1.1 s3.1.2).2, (prsP m (zbl n s3.1.1 s3.1.2).1.1 (zbl n s3.1.1 s3.1.2).1.2).2, ())) := by
    simp only [zdA, bnd, ret, h0, h1, h2, h3, e2, e3, Int.toNat_natCast]
  rw [hc]
  rfl
end
section
def selB (x : Fr) : List UInt8 := ((q124 2000 x).getD ([], ())).1
theorem zhA (x : Fr) : q124 2000 x = some (selB x, ()) /\ (selB x).length = 32 /\ bv (selB x) = fv x := by
  obtain ⟨out, h1, h2, h3, _⟩ := zx4 x
  have : selB x = out := by unfold selB; rw [h3]; rfl
  rw [this]
  exact ⟨h3, h1, h2⟩
def putB (x : Fr) : List UInt8 := cond (eqF x ⟨0, 0, 0, 0⟩) [] (selB x)
def zhN : Nat -> UInt8 -> List Fr -> UInt8
  | _, m, [] => m
  | k, m, x :: l => zhN (k + 1) (cond (eqF x ⟨0, 0, 0, 0⟩) m (m ||| shl8 1 (UInt64.toNat (u64I (k : Int))))) l
def putL : List Fr -> List UInt8
  | [] => []
  | x :: l => putB x ++ putL l
def zdK (r : Row) : List Fr := [r.q0, r.q1, r.q2, r.q3, r.q4, r.q5, r.q6, r.q7]
def zd6 (r : Row) : List UInt8 := [zhN 0 0 (zdK r)] ++ (putL (zdK r) ++ [u8I r.w0, u8I r.w1, u8I r.w2])
def zbG : List Row -> List UInt8
  | [] => []
  | r :: l => zd6 r ++ zbG l
def zco : List Pr -> List UInt8
  | [] => []
  | p :: l => [u8I p.x, u8I p.y] ++ zco l
def encC (c0 v1 : Int) (v2 : List Row) (v3 : List Pr) : List UInt8 := [u8I c0, u8I v1, u8I (v2.length : Int), u8I (v3.length : Int)] ++ (zbG v2 ++ zco v3)
theorem zyk (x : Fr) : (putB x).length <= 32 := by
  unfold putB
  cases eqF x ⟨0, 0, 0, 0⟩ with
  | true => simp
  | false => exact Nat.le_of_eq (zhA x).2.1
theorem zsB : ∀ l : List Fr, (putL l).length <= 32 * l.length
  | [] => Nat.le_refl _
  | x :: l => by have := zyk x; have := zsB l; simp only [putL, List.length_append, List.length_cons]; omega
theorem zlb (r : Row) : (zd6 r).length <= 300 := by
  have := zsB (zdK r)
  have hl : (zdK r).length = 8 := rfl
  simp only [zd6, List.length_append, List.length_cons, List.length_nil]
  omega
theorem zBo {l : List Fr} {x : Fr} {m : List Fr} {i : Nat} (hd : m.drop i = x :: l) (hi : i < m.length) : m.getD i Fr.zero = x /\ m.drop (i + 1) = l := by
  rw [List.drop_eq_getElem_cons hi] at hd
  injection hd with h1 h2
  exact ⟨by rw [List.getD_eq_getElem?_getD, List.getElem?_eq_getElem hi]; exact h1, h2⟩
abbrev Lb6 := (List Row) -> Int -> Int -> Int -> Int -> (List Row) -> (List Pr) -> (List UInt8) -> Option (List UInt8 × Int × Unit)
theorem zsC (A6 : Lb6) (t37 : List Row) (t38 t39 : Int) {ts : List Fr} (h8 : ts.length = 8) (c0 v1 : Int) (v2 : List Row) (v3 : List Pr) {out : List UInt8} (ho : out.length < 100000) (r : Row) : ∀ (l : List Fr) (k f : Nat) (mk : UInt8) (qs : List UInt8), ts.drop k = l -> k + l.length = 8 -> l.length < f -> qs.length <= 32 * k ->
    zem 2000 A6 f mk t37 t38 t39 ts (k : Int) c0 v1 v2 v3 out r qs = zdI 2000 A6 2000 t37 t38 t39 [r.w0, r.w1, r.w2] 0 c0 v1 v2 v3 (out ++ [zhN k mk l] ++ (qs ++ putL l))
  | [], k, f + 1, mk, qs, hd, hk, hf, hq => by
    simp only [List.length_nil] at hk
    rw [zf4]
    unfold zfE
    rw [zad (by omega), cond_false]
    simp only [List.length_append, List.length_cons, List.length_nil]
    rw [zay (by omega), mst2, zay (by omega), mst2, putL, List.append_nil]
    rfl
  | x :: l, k, f + 1, mk, qs, hd, hk, hf, hq => by
    simp only [List.length_cons] at hk hf
    obtain ⟨hg, hd'⟩ := zBo hd (by omega)
    rw [zf4]
    unfold zfE
    rw [zae (show (k : Int) < 8 by omega), cond_true, zaq, h8, zae (show (k : Int) < ((8 : Nat) : Int) by omega), Int.toNat_natCast, zaD (by omega)]
    simp only [Bool.and_self, mst2]
    rw [hg]
    cases hz : eqF x ⟨0, 0, 0, 0⟩ with
    | true =>
      rw [Bool.not_true, cond_false, zsC A6 t37 t38 t39 h8 c0 v1 v2 v3 ho r l (k + 1) f mk qs hd' (by omega) (by omega) (by omega)]
      simp only [zhN, putL, putB, hz, cond_true, List.nil_append]
    | false =>
      obtain ⟨e, hl, _⟩ := zhA x
      rw [Bool.not_false, cond_true, e, bsm]
      simp only []
      rw [zay (by omega), mst2, zsC A6 t37 t38 t39 h8 c0 v1 v2 v3 ho r l (k + 1) f _ (qs ++ selB x) hd' (by omega) (by omega) (by simp; omega)]
      simp only [zhN, putL, putB, hz, cond_false, List.append_assoc]
abbrev Lb19 := (List Row) -> Int -> Int -> (List Int) -> Int -> Int -> Int -> (List Row) -> (List Pr) -> (List UInt8) -> Option (List UInt8 × Int × Unit)
theorem zyl (N : Nat) (A6 : Lb6) (A : Lb19) (t37 : List Row) (t38 t39 a b c c0 v1 : Int) (v2 : List Row) (v3 : List Pr) (out : List UInt8) : zdH N A6 A t37 t38 t39 [a, b, c] 0 c0 v1 v2 v3 out = must (leN ((out.length + 1) * 1) 140737488355328) (A t37 t38 t39 [a, b, c] 1 c0 v1 v2 v3 (out ++ [u8I a])) := by kernel_rfl
theorem zym (N : Nat) (A6 : Lb6) (A : Lb19) (t37 : List Row) (t38 t39 a b c c0 v1 : Int) (v2 : List Row) (v3 : List Pr) (out : List UInt8) : zdH N A6 A t37 t38 t39 [a, b, c] 1 c0 v1 v2 v3 out = must (leN ((out.length + 1) * 1) 140737488355328) (A t37 t38 t39 [a, b, c] 2 c0 v1 v2 v3 (out ++ [u8I b])) := by kernel_rfl
theorem zyn (N : Nat) (A6 : Lb6) (A : Lb19) (t37 : List Row) (t38 t39 a b c c0 v1 : Int) (v2 : List Row) (v3 : List Pr) (out : List UInt8) : zdH N A6 A t37 t38 t39 [a, b, c] 2 c0 v1 v2 v3 out = must (leN ((out.length + 1) * 1) 140737488355328) (A t37 t38 t39 [a, b, c] 3 c0 v1 v2 v3 (out ++ [u8I c])) := by kernel_rfl
theorem zyo (N : Nat) (A6 : Lb6) (A : Lb19) (t37 : List Row) (t38 t39 a b c c0 v1 : Int) (v2 : List Row) (v3 : List Pr) (out : List UInt8) : zdH N A6 A t37 t38 t39 [a, b, c] 3 c0 v1 v2 v3 out = A6 t37 t38 (wr (t39 + 1)) c0 v1 v2 v3 out := by kernel_rfl
theorem zBp (A6 : Lb6) (t37 : List Row) (t38 t39 a b c c0 v1 : Int) (v2 : List Row) (v3 : List Pr) {out : List UInt8} (ho : out.length < 1000000) : zdI 2000 A6 2000 t37 t38 t39 [a, b, c] 0 c0 v1 v2 v3 out = A6 t37 t38 (wr (t39 + 1)) c0 v1 v2 v3 (out ++ [u8I a, u8I b, u8I c]) := by
  show zdI 2000 A6 (1996 + 1 + 1 + 1 + 1) t37 t38 t39 [a, b, c] 0 c0 v1 v2 v3 out = _
  rw [zcP, zyl, zay (by omega), mst2, zcP, zym, zay (by simp; omega), mst2, zcP, zyn, zay (by simp; omega), mst2, zcP, zyo]
  simp only [List.append_assoc, List.singleton_append, List.nil_append, List.cons_append]
theorem znX (v3 : List Pr) (h3 : v3.length < 1000) : ∀ (l : List Pr) (i f : Nat) (out : List UInt8), v3.drop i = l -> i + l.length = v3.length -> l.length < f -> out.length < 100000 + 2 * i -> zfD 2000 f v3 (v3.length : Int) (i : Int) out = some (out ++ zco l, 0, ())
  | [], i, f + 1, out, hd, hl, hf, ho => by
    rw [zf3]
    unfold zfC
    rw [zad (by simp at hl; omega), cond_false, zco, List.append_nil]
  | x :: l, i, f + 1, out, hd, hl, hf, ho => by
    simp only [List.length_cons] at hl hf
    have hi : i < v3.length := by omega
    have e1 := znX v3 h3 l (i + 1) f (out ++ [u8I x.x, u8I x.y]) (zsv hd hi).2 (by omega) (by omega) (by simp; omega)
    rw [zf3]
    unfold zfC
    rw [zae (show (i : Int) < (v3.length : Int) by omega), cond_true, zaq, Int.toNat_natCast, (zsv hd hi).1, zaD (by omega)]
    simp only [Bool.and_self, mst2, List.length_cons, List.length_nil]
    rw [zay (by omega), mst2, e1, zco, List.append_assoc]
theorem zlc (c0 v1 : Int) (v2 : List Row) (v3 : List Pr) (h2 : v2.length <= 64) (h3 : v3.length < 1000) : ∀ (l : List Row) (i f : Nat) (out : List UInt8), v2.drop i = l -> i + l.length = v2.length -> l.length < f -> out.length <= 4 + 300 * i -> zf5 2000 f v2 (v2.length : Int) (i : Int) c0 v1 v2 v3 out = some (out ++ (zbG l ++ zco v3), 0, ())
  | [], i, f + 1, out, hd, hl, hf, ho => by
    have e1 := znX v3 h3 v3 0 2000 out rfl (by omega) (by omega) (by simp at hl; omega)
    rw [zhq]
    unfold ziI
    rw [zad (by simp at hl; omega), cond_false, zbG, List.nil_append]
    exact e1
  | r :: l, i, f + 1, out, hd, hl, hf, ho => by
    simp only [List.length_cons] at hl hf
    have hi : i < v2.length := by omega
    have e1 := zsC (zf5 2000 f) v2 (v2.length : Int) (i : Int) (ts := zdK r) rfl c0 v1 v2 v3 (out := out) (by omega) r (zdK r) 0 2000 0 [] rfl rfl (by show 8 < 2000; omega) (by simp)
    have hrl := zlb r
    have hrl2 := hrl
    simp only [zd6, List.length_append, List.length_cons, List.length_nil] at hrl2
    have ho2 : (out ++ [zhN 0 0 (zdK r)] ++ ([] ++ putL (zdK r))).length < 1000000 := by simp only [List.length_append, List.length_cons, List.length_nil]; omega
    have ha : out ++ [zhN 0 0 (zdK r)] ++ ([] ++ putL (zdK r)) ++ [u8I r.w0, u8I r.w1, u8I r.w2] = out ++ zd6 r := by simp only [zd6, List.append_assoc, List.nil_append]
    have e4 := zlc c0 v1 v2 v3 h2 h3 l (i + 1) f (out ++ zd6 r) (zhy hd hi).2 (by omega) (by omega) (by simp only [List.length_append]; omega)
    rw [zhq]
    unfold ziI
    rw [zae (show (i : Int) < (v2.length : Int) by omega), cond_true, zaq, Int.toNat_natCast, (zhy hd hi).1]
    simp only [Bool.and_self, mst2]
    refine (show _ = zem 2000 (zf5 2000 f) 2000 0 v2 (v2.length : Int) (i : Int) (zdK r) ((0 : Nat) : Int) c0 v1 v2 v3 out r [] from rfl).trans (e1.trans ?_)
    rw [zBp _ _ _ _ _ _ _ _ _ _ _ ho2, zaD (by omega), ha, e4]
    simp only [zbG, List.append_assoc]
theorem zsD {c0 v1 : Int} {v2 : List Row} {v3 : List Pr} (h : GoodCirc c0 v1 v2 v3) (hm : mayF c0 v1 v2 v3 = 0) : q139 2000 c0 v1 v2 v3 = some (encC c0 v1 v2 v3, 0, ()) := by
  have h2 := h.rows; have h3 := h.same
  have e4 := zlc c0 v1 v2 v3 h2 (by omega) v2 0 2000 [u8I c0, u8I v1, u8I (v2.length : Int), u8I (v3.length : Int)] rfl (by omega) (by omega) (by simp)
  unfold q139
  rw [zsy (N := 2000) (Nat.le_refl _) c0 v1 v2 v3 (by omega) (by omega), bsm, hm, zaI rfl, Bool.not_true, cond_false]
  exact e4
theorem ziT : ∀ l : List Row, (zbG l).length <= 300 * l.length
  | [] => Nat.le_refl _
  | r :: l => by have := zlb r; have := ziT l; simp only [zbG, List.length_append, List.length_cons]; omega
theorem ziU : ∀ l : List Pr, (zco l).length = 2 * l.length
  | [] => rfl
  | p :: l => by have := ziU l; simp only [zco, List.length_append, List.length_cons, List.length_nil]; omega
theorem zu0 {c0 v1 : Int} {v2 : List Row} {v3 : List Pr} (h2 : v2.length <= 64) (h3 : v3.length <= 200) : 4 <= (encC c0 v1 v2 v3).length /\ (encC c0 v1 v2 v3).length < 100000 := by
  have := ziT v2; have := ziU v3
  simp only [encC, List.length_append, List.length_cons, List.length_nil]
  omega
end
section
variable {α β : Type}
def Sty (p : Ps α) : Prop := ∀ l e, e ≠ 0 -> (p l e).1.2 = e
def Enc (p : Ps α) (bs : List UInt8) (a : α) : Prop := (∀ r, p (bs ++ r) 0 = ((r, 0), a)) /\ ∀ k, k < bs.length -> (p (bs.take k) 0).1.2 = 2
def Inv (p : Ps α) (R : α -> List UInt8 -> Prop) : Prop := ∀ l r a, p l 0 = ((r, 0), a) -> ∃ bs, l = bs ++ r /\ R a bs
theorem Sty.ret (a : α) : Sty (ret a) := fun _ _ _ => rfl
theorem Sty.bnd {p : Ps α} {q : α -> Ps β} (hp : Sty p) (hq : ∀ a, Sty (q a)) : Sty (bnd p q) := fun l e he => by
  have h := hp l e he
  show (q (p l e).2 (p l e).1.1 (p l e).1.2).1.2 = e
  rw [hq _ _ _ (by rw [h]; exact he), h]
theorem Enc.ret (a : α) : Enc (ret a) [] a := ⟨fun _ => rfl, fun k hk => absurd hk (Nat.not_lt_zero k)⟩
theorem Enc.of {p : Ps α} {b1 b2 : List UInt8} {a : α} (h : Enc p b1 a) (e : b1 = b2) : Enc p b2 a := e ▸ h
theorem Enc.bnd {p : Ps α} {q : α -> Ps β} {b1 b2 : List UInt8} {a : α} {c : β} (hp : Enc p b1 a) (hs : ∀ a, Sty (q a)) (hq : Enc (q a) b2 c) : Enc (bnd p q) (b1 ++ b2) c := by
  refine ⟨fun r => ?_, fun k hk => ?_⟩
  . show q (p (b1 ++ b2 ++ r) 0).2 (p (b1 ++ b2 ++ r) 0).1.1 (p (b1 ++ b2 ++ r) 0).1.2 = _
    rw [List.append_assoc, hp.1]
    exact hq.1 r
  . show (q (p ((b1 ++ b2).take k) 0).2 (p ((b1 ++ b2).take k) 0).1.1 (p ((b1 ++ b2).take k) 0).1.2).1.2 = 2
    rw [List.take_append]
    rw [List.length_append] at hk
    by_cases h1 : k < b1.length
    . have h2 := hp.2 k h1
      rw [show k - b1.length = 0 by omega, List.take_zero, List.append_nil]
      rw [hs _ _ _ (by rw [h2]; omega), h2]
    . rw [List.take_of_length_le (by omega), hp.1]
      exact hq.2 _ (by omega)
theorem Enc.eq0 {p q : Ps α} {bs : List UInt8} {a : α} (h : Enc p bs a) (e : ∀ l, q l 0 = p l 0) : Enc q bs a := ⟨fun r => by rw [e]; exact h.1 r, fun k hk => by rw [e]; exact h.2 k hk⟩
theorem Inv.ret (a : α) : Inv (ret a) fun x bs => x = a /\ bs = [] := fun l r x h => by
  cases h
  exact ⟨[], rfl, rfl, rfl⟩
theorem zyp {x : RS × α} (h : x.1.2 = 0) : x = ((x.1.1, 0), x.2) := by
  rcases x with ⟨⟨l, e⟩, a⟩
  have h : e = 0 := h
  rw [h]
theorem Inv.bnd {p : Ps α} {q : α -> Ps β} {R : α -> List UInt8 -> Prop} {S : α -> β -> List UInt8 -> Prop} (hp : Inv p R) (hs : ∀ a, Sty (q a)) (hq : ∀ a, Inv (q a) (S a)) : Inv (bnd p q) fun c bs => ∃ a b1 b2, R a b1 /\ S a c b2 /\ bs = b1 ++ b2 := fun l r c h => by
  have h : q (p l 0).2 (p l 0).1.1 (p l 0).1.2 = ((r, 0), c) := h
  have h0 : (p l 0).1.2 = 0 := by
    by_cases hz : (p l 0).1.2 = 0
    . exact hz
    . have := hs (p l 0).2 (p l 0).1.1 _ hz
      rw [h] at this
      exact this.symm
  obtain ⟨b1, e1, r1⟩ := hp l (p l 0).1.1 (p l 0).2 (zyp h0)
  rw [h0] at h
  obtain ⟨b2, e2, r2⟩ := hq _ _ _ _ h
  exact ⟨b1 ++ b2, by rw [List.append_assoc, ← e2]; exact e1, _, b1, b2, r1, r2, rfl⟩
theorem Inv.imp {p : Ps α} {R S : α -> List UInt8 -> Prop} (h : Inv p R) (hi : ∀ a bs, R a bs -> S a bs) : Inv p S := fun l r a e => by
  obtain ⟨bs, h1, h2⟩ := h l r a e
  exact ⟨bs, h1, hi _ _ h2⟩
theorem Inv.eq0 {p q : Ps α} {R : α -> List UInt8 -> Prop} (h : Inv p R) (e : ∀ l, q l 0 = p l 0) : Inv q R := fun l r a he => h l r a (by rw [← e]; exact he)
theorem zsE (n : Nat) : Sty (tkP n) := fun l e he => by unfold tkP; rw [if_neg he]
theorem zsF (bs : List UInt8) : Enc (tkP bs.length) bs bs := by
  refine ⟨fun r => ?_, fun k hk => ?_⟩
  . unfold tkP
    rw [if_pos rfl, if_neg (by simp)]
    simp
  . unfold tkP
    rw [if_pos rfl, if_pos (by simp; omega)]
theorem zsG (n : Nat) : Inv (tkP n) fun a bs => bs = a /\ a.length = n := fun l r a h => by
  unfold tkP at h
  rw [if_pos rfl] at h
  split at h
  . cases h
  . rename_i hl
    cases h
    exact ⟨l.take n, (List.take_append_drop n l).symm, rfl, by simp; omega⟩
theorem zbz : Sty octP := fun l e he => zsE 1 l e he
theorem zjP (x : UInt8) : Enc octP [x] (x.toNat : Int) := by
  have h := zsF [x]
  refine ⟨fun r => ?_, fun k hk => h.2 k hk⟩
  have := h.1 r
  unfold octP
  rw [show tkP 1 ([x] ++ r) 0 = ((r, 0), [x]) from this]
  rfl
theorem ze7 : Inv octP fun a bs => ∃ x : UInt8, bs = [x] /\ a = (x.toNat : Int) := fun l r a h => by
  unfold octP at h
  injection h with h1 h2
  obtain ⟨bs, e1, e2, e3⟩ := zsG 1 l r (tkP 1 l 0).2 (by rw [← h1])
  obtain ⟨x, hx⟩ := List.length_eq_one_iff.1 e3
  rw [e2, hx] at e1
  rw [hx] at h2
  exact ⟨[x], e1, x, rfl, h2.symm⟩
theorem zvS : ∀ {a b : List UInt8}, a.length = b.length -> bv a = bv b -> a = b
  | [], [], _, _ => rfl
  | [], _ :: _, h, _ => by cases h
  | _ :: _, [], h, _ => by cases h
  | x :: a, y :: b, hl, h => by
    simp only [List.length_cons, Nat.add_right_cancel_iff] at hl
    have ha := zxY a; have hb := zxY b
    simp only [bv] at h
    rw [hl] at h ha
    have hxy : x.toNat = y.toNat := by
      have e1 : (x.toNat * 256 ^ b.length + bv a) / 256 ^ b.length = x.toNat := by
        rw [Nat.mul_comm, Nat.mul_add_div (Nat.pow_pos (by decide)), Nat.div_eq_of_lt ha, Nat.add_zero]
      have e2 : (y.toNat * 256 ^ b.length + bv b) / 256 ^ b.length = y.toNat := by
        rw [Nat.mul_comm, Nat.mul_add_div (Nat.pow_pos (by decide)), Nat.div_eq_of_lt hb, Nat.add_zero]
      rw [← e1, h, e2]
    rw [hxy] at h
    have := zvS hl (Nat.add_left_cancel h)
    rw [this, UInt8.toNat_inj.1 hxy]
theorem zu1 {b : List UInt8} (h : b.length = 32) (hb : bv b < RR) : selB (frN (bv b)) = b := by
  obtain ⟨_, h1, h2⟩ := zhA (frN (bv b))
  exact zvS (by rw [h1, h]) (by rw [h2, zmQ hb])
theorem zu2 {x : Fr} (h : fv x < RR) : tkF (selB x) = (x, 0, ()) := by
  obtain ⟨_, h1, h2⟩ := zhA x
  unfold tkF
  rw [if_neg (by omega), if_neg (by omega), if_pos (by rw [h2]; exact h), h2, zr9]
theorem znY {e v : Int} (h : e ≠ 0) : stk e v = e := by unfold stk; rw [if_neg h]
theorem zu3 : Sty selP := fun l e he => by
  have h := zsE 32 l e he
  unfold selP
  simp only [h, znY he]
  split
  . split <;> rfl
  . rfl
theorem zu4 {x : Fr} (h0 : x ≠ Fr.zero) (h : fv x < RR) : Enc selP (selB x) x := by
  have ht := zsF (selB x)
  rw [(zhA x).2.1] at ht
  refine ⟨fun r => ?_, fun k hk => ?_⟩
  . unfold selP
    rw [ht.1 r]
    simp only [zu2 h, if_true, if_neg h0]
  . have h2 := ht.2 k hk
    unfold selP
    simp only [h2]
    have h3 : ∀ v : Int, stk 2 v = 2 := fun v => znY (by omega)
    simp only [h3]
    split
    . split <;> rfl
    . rfl
theorem zu5 : Inv selP fun a bs => bs = selB a /\ a ≠ Fr.zero /\ fv a < RR := fun l r a h => by
  unfold selP at h
  by_cases hz : (tkP 32 l 0).1.2 = 0
  . obtain ⟨bs, e1, e2, e3⟩ := zsG 32 l (tkP 32 l 0).1.1 (tkP 32 l 0).2 (zyp hz)
    rw [hz] at h
    revert h e1 e2 e3
    generalize tkP 32 l 0 = t
    intro h e1 e2 e3
    subst e2
    injection h with h1 h2
    injection h1 with h1 h3
    unfold tkF at h2 h3
    have hl1 : ¬ t.2.length < 32 := by omega
    have hl2 : ¬ 32 < t.2.length := by omega
    rw [if_neg hl1, if_neg hl2] at h2 h3
    by_cases hb : bv t.2 < RR
    . rw [if_pos hb] at h2 h3
      simp only [if_true] at h3
      by_cases h4 : frN (bv t.2) = Fr.zero
      . rw [if_pos h4] at h3
        cases h3
      . refine ⟨t.2, by rw [e1, h1], ?_, ?_, ?_⟩
        . rw [← h2]; exact (zu1 e3 hb).symm
        . rw [← h2]; exact h4
        . rw [← h2, zmQ hb]; exact hb
    . rw [if_neg hb] at h2 h3
      cases h3
  . injection h with h1 h2
    injection h1 with h1 h3
    simp only [znY hz] at h3
    exfalso
    split at h3
    . split at h3
      . exact hz h3
      . exact hz h3
    . exact hz h3
end
section
def nzb (x : Fr) : Bool := !eqF x ⟨0, 0, 0, 0⟩
def zm1 : Nat -> UInt8 -> List Bool -> UInt8
  | _, m, [] => m
  | k, m, b :: l => zm1 (k + 1) (cond b (m ||| shl8 1 (UInt64.toNat (u64I (k : Int)))) m) l
theorem zjQ : ∀ (l : List Fr) (k : Nat) (m : UInt8), zhN k m l = zm1 k m (l.map nzb)
  | [], _, _ => rfl
  | x :: l, k, m => by
    simp only [zhN, List.map_cons, zm1, nzb]
    rw [zjQ l]
    cases eqF x ⟨0, 0, 0, 0⟩ <;> rfl
theorem zpc : ∀ b0 b1 b2 b3 b4 b5 b6 b7 : Bool, zdy ((zm1 0 0 [b0, b1, b2, b3, b4, b5, b6, b7]).toNat : Int) = [b0, b1, b2, b3, b4, b5, b6, b7] := by decide +kernel
theorem zld : ∀ i : Fin 256, zm1 0 0 (zdy (i.val : Int)) = UInt8.ofNat i.val := by decide +kernel
theorem zsH {l : List Bool} (h : l.length = 8) : zdy ((zm1 0 0 l).toNat : Int) = l := by
  match l, h with
  | [b0, b1, b2, b3, b4, b5, b6, b7], _ => exact zpc b0 b1 b2 b3 b4 b5 b6 b7
theorem zsI (x : UInt8) : zm1 0 0 (zdy (x.toNat : Int)) = x := by
  have := zld ⟨x.toNat, x.toNat_lt⟩
  simpa using this
theorem zsJ (b : Bool) : Sty (zeo b) := fun l e he => by
  cases b with
  | true => exact zu3 l e he
  | false => rfl
theorem zsK {x : Fr} (h : fv x < RR) : Enc (zeo (nzb x)) (putB x) x := by
  unfold nzb putB
  cases hz : eqF x ⟨0, 0, 0, 0⟩ with
  | true =>
    have := (zxW x _).1 hz
    subst this
    exact Enc.ret _
  | false => exact zu4 (fun e => by rw [znT (show x = ⟨0, 0, 0, 0⟩ from e)] at hz; cases hz) h
theorem zsL (b : Bool) : Inv (zeo b) fun a bs => bs = putB a /\ b = nzb a /\ fv a < RR := by
  cases b with
  | true => exact zu5.imp fun a bs h => ⟨by unfold putB; rw [zhk (show a ≠ ⟨0, 0, 0, 0⟩ from h.2.1)]; exact h.1, by unfold nzb; rw [zhk (show a ≠ ⟨0, 0, 0, 0⟩ from h.2.1)]; rfl, h.2.2⟩
  | false => exact (Inv.ret Fr.zero).imp fun a bs h => ⟨by rw [h.1, h.2]; rfl, by rw [h.1]; rfl, by rw [h.1]; decide⟩
theorem zdL : ∀ bs, Sty (zhM bs)
  | [] => Sty.ret _
  | b :: bs => (zsJ b).bnd fun x => (zdL bs).bnd fun t => Sty.ret _
theorem zle : ∀ {l : List Fr}, (∀ x ∈ l, fv x < RR) -> Enc (zhM (l.map nzb)) (putL l) l
  | [], _ => Enc.ret _
  | x :: l, h => ((zsK (h x (List.mem_cons_self))).bnd (fun x => (zdL _).bnd fun t => Sty.ret _) ((zle (fun y hy => h y (List.mem_cons_of_mem _ hy))).bnd (fun t => Sty.ret _) (Enc.ret _))).of (by rw [List.append_nil]; rfl)
theorem zlf : ∀ bs, Inv (zhM bs) fun ts b => b = putL ts /\ bs = ts.map nzb
  | [] => (Inv.ret []).imp fun a b h => ⟨by rw [h.1, h.2]; rfl, by rw [h.1]; rfl⟩
  | b :: bs => ((zsL b).bnd (fun x => (zdL _).bnd fun t => Sty.ret _) fun x => (zlf bs).bnd (fun t => Sty.ret _) fun t => Inv.ret _).imp fun c d h => by
    obtain ⟨x, b1, b2, ⟨h1, h2, _⟩, ⟨t, b3, b4, ⟨h4, h5⟩, ⟨h6, h7⟩, h8⟩, h9⟩ := h
    subst h6 h7 h8 h1 h4 h9
    exact ⟨by rw [List.append_nil]; rfl, by rw [h2, h5]; rfl⟩
theorem zsM (x : UInt8) : u8I (x.toNat : Int) = x := by
  have := x.toNat_lt
  unfold u8I
  rw [show ((x.toNat : Int) % 256).toNat = x.toNat by omega]
  simp
theorem zvT {n : Int} (h0 : 0 <= n) (h : n < 256) : ((u8I n).toNat : Int) = n := by
  unfold u8I
  obtain ⟨k, rfl⟩ := Int.eq_ofNat_of_zero_le h0
  have e : ((k : Int) % 256).toNat = k := by omega
  rw [e]
  simp
  omega
theorem ze8 : Sty wP := fun l e he => zbz l e he
theorem zsN {w : Int} (h0 : -1 <= w) (h : w < 255) : Enc wP [u8I w] w := by
  have ho := zjP (u8I w)
  refine ⟨fun r => ?_, fun k hk => ho.2 k hk⟩
  unfold wP
  rw [ho.1 r]
  simp only []
  by_cases hw : w = -1
  . subst hw; rfl
  . rw [zvT (by omega) (by omega), if_neg (by omega)]
theorem zsO : Inv wP fun w bs => bs = [u8I w] := fun l r a h => by
  unfold wP at h
  injection h with h1 h2
  obtain ⟨bs, e1, x, e2, e3⟩ := ze7 l r (octP l 0).2 (by rw [← h1])
  refine ⟨bs, e1, ?_⟩
  rw [e2, ← h2, e3]
  by_cases hx : (x.toNat : Int) = 255
  . rw [if_pos hx]
    have : x = 255 := UInt8.toNat_inj.1 (by show x.toNat = 255; omega)
    subst this
    rfl
  . rw [if_neg hx]
    show [x] = [u8I (x.toNat : Int)]
    rw [zsM]
theorem zjR (t : List Fr) : Sty (wsP t) := ze8.bnd fun _ => ze8.bnd fun _ => ze8.bnd fun _ => Sty.ret _
theorem zyq (t : List Fr) {a b c : Int} (ha : -1 <= a /\ a < 255) (hb : -1 <= b /\ b < 255) (hc : -1 <= c /\ c < 255) : Enc (wsP t) [u8I a, u8I b, u8I c] (mkR t a b c) :=
  ((zsN ha.1 ha.2).bnd (fun _ => ze8.bnd fun _ => ze8.bnd fun _ => Sty.ret _) ((zsN hb.1 hb.2).bnd (fun _ => ze8.bnd fun _ => Sty.ret _) ((zsN hc.1 hc.2).bnd (fun _ => Sty.ret _) (Enc.ret _)))).of rfl
theorem zyr (t : List Fr) : Inv (wsP t) fun r bs => ∃ a b c, r = mkR t a b c /\ bs = [u8I a, u8I b, u8I c] :=
  (zsO.bnd (fun _ => ze8.bnd fun _ => ze8.bnd fun _ => Sty.ret _) fun a => zsO.bnd (fun _ => ze8.bnd fun _ => Sty.ret _) fun b => zsO.bnd (fun _ => Sty.ret _) fun c => Inv.ret _).imp fun r bs h => by
    obtain ⟨a, b1, b2, rfl, ⟨b, b3, b4, rfl, ⟨c, b5, b6, rfl, ⟨rfl, rfl⟩, rfl⟩, rfl⟩, rfl⟩ := h
    exact ⟨a, b, c, rfl, rfl⟩
structure OkR (r : Row) : Prop where
  q : ∀ x ∈ zdK r, fv x < RR
  a : -1 <= r.w0 /\ r.w0 < 255
  b : -1 <= r.w1 /\ r.w1 < 255
  c : -1 <= r.w2 /\ r.w2 < 255
theorem zu6 {r : Row} (h : OkR r) : Enc rowP (zd6 r) r := by
  have hb : zdy ((zhN 0 0 (zdK r)).toNat : Int) = (zdK r).map nzb := by rw [zjQ]; exact zsH rfl
  have hs := zle h.q
  rw [← hb] at hs
  exact (zjP _).bnd (fun _ => (zdL _).bnd fun _ => zjR _) (hs.bnd (fun _ => zjR _) (zyq (zdK r) h.a h.b h.c))
theorem zu7 : Inv rowP fun r bs => bs = zd6 r :=
  (ze7.bnd (fun _ => (zdL _).bnd fun _ => zjR _) fun m => (zlf (zdy m)).bnd (fun _ => zjR _) fun t => zyr t).imp fun r bs h => by
    obtain ⟨m, b1, b2, ⟨x, rfl, rfl⟩, ⟨t, b3, b4, ⟨rfl, h5⟩, ⟨a, b, c, rfl, rfl⟩, rfl⟩, rfl⟩ := h
    have h8 : t.length = 8 := by have := congrArg List.length h5; rw [List.length_map] at this; exact this.symm
    match t, h8, h5 with
    | [x0, x1, x2, x3, x4, x5, x6, x7], _, h5 =>
      have hr : zdK (mkR [x0, x1, x2, x3, x4, x5, x6, x7] a b c) = [x0, x1, x2, x3, x4, x5, x6, x7] := rfl
      unfold zd6
      rw [hr, zjQ, ← h5, zsI]
      rfl
theorem ze9 : ∀ n, Sty (zbl n)
  | 0 => Sty.ret _
  | n + 1 => fun l e he => by unfold zbl; rw [if_neg he]
theorem zsP (n : Nat) (l : List UInt8) : zbl (n + 1) l 0 = bnd rowP (fun r => bnd (zbl n) fun t => ret (r :: t)) l 0 := by simp only [zbl, if_true]
theorem zlg : ∀ {l : List Row}, (∀ r ∈ l, OkR r) -> Enc (zbl l.length) (zbG l) l
  | [], _ => Enc.ret _
  | r :: l, h => (((zu6 (h r (List.mem_cons_self))).bnd (fun _ => (ze9 _).bnd fun _ => Sty.ret _) ((zlg (fun y hy => h y (List.mem_cons_of_mem _ hy))).bnd (fun _ => Sty.ret _) (Enc.ret _))).of (by rw [List.append_nil]; rfl)).eq0 (zsP _)
theorem zlh : ∀ n, Inv (zbl n) fun t bs => bs = zbG t /\ t.length = n
  | 0 => (Inv.ret []).imp fun a b h => ⟨by rw [h.1, h.2]; rfl, by rw [h.1]; rfl⟩
  | n + 1 => ((zu7.bnd (fun _ => (ze9 _).bnd fun _ => Sty.ret _) fun r => (zlh n).bnd (fun _ => Sty.ret _) fun t => Inv.ret _).imp fun c d h => by
    obtain ⟨x, b1, b2, rfl, ⟨t, b3, b4, ⟨rfl, h5⟩, ⟨rfl, rfl⟩, rfl⟩, rfl⟩ := h
    exact ⟨by rw [List.append_nil]; rfl, by rw [List.length_cons, h5]⟩).eq0 (zsP _)
def OkP (p : Pr) : Prop := (0 <= p.x /\ p.x < 256) /\ 0 <= p.y /\ p.y < 256
theorem zc6 {n : Int} (h0 : 0 <= n) (h : n < 256) : Enc octP [u8I n] n := by
  have := zjP (u8I n)
  rw [zvT h0 h] at this
  exact this
theorem zfa : Inv octP fun n bs => bs = [u8I n] := ze7.imp fun a bs h => by
  obtain ⟨x, rfl, rfl⟩ := h
  rw [zsM]
theorem zys {p : Pr} (h : OkP p) : Enc prP [u8I p.x, u8I p.y] p := ((zc6 h.1.1 h.1.2).bnd (fun _ => zbz.bnd fun _ => Sty.ret _) ((zc6 h.2.1 h.2.2).bnd (fun _ => Sty.ret _) (Enc.ret _))).of rfl
theorem zyt : Inv prP fun p bs => bs = [u8I p.x, u8I p.y] := (zfa.bnd (fun _ => zbz.bnd fun _ => Sty.ret _) fun a => zfa.bnd (fun _ => Sty.ret _) fun b => Inv.ret _).imp fun p bs h => by
  obtain ⟨a, b1, b2, rfl, ⟨b, b3, b4, rfl, ⟨rfl, rfl⟩, rfl⟩, rfl⟩ := h
  rfl
theorem zgo : ∀ n, Sty (prsP n)
  | 0 => Sty.ret _
  | n + 1 => fun l e he => by unfold prsP; rw [if_neg he]
theorem zvU (n : Nat) (l : List UInt8) : prsP (n + 1) l 0 = bnd prP (fun r => bnd (prsP n) fun t => ret (r :: t)) l 0 := by simp only [prsP, if_true]
theorem znZ : ∀ {l : List Pr}, (∀ r ∈ l, OkP r) -> Enc (prsP l.length) (zco l) l
  | [], _ => Enc.ret _
  | r :: l, h => (((zys (h r (List.mem_cons_self))).bnd (fun _ => (zgo _).bnd fun _ => Sty.ret _) ((znZ (fun y hy => h y (List.mem_cons_of_mem _ hy))).bnd (fun _ => Sty.ret _) (Enc.ret _))).of (by rw [List.append_nil]; rfl)).eq0 (zvU _)
theorem zn0 : ∀ n, Inv (prsP n) fun t bs => bs = zco t /\ t.length = n
  | 0 => (Inv.ret []).imp fun a b h => ⟨by rw [h.1, h.2]; rfl, by rw [h.1]; rfl⟩
  | n + 1 => ((zyt.bnd (fun _ => (zgo _).bnd fun _ => Sty.ret _) fun r => (zn0 n).bnd (fun _ => Sty.ret _) fun t => Inv.ret _).imp fun c d h => by
    obtain ⟨x, b1, b2, rfl, ⟨t, b3, b4, ⟨rfl, h5⟩, ⟨rfl, rfl⟩, rfl⟩, rfl⟩ := h
    exact ⟨by rw [List.append_nil]; rfl, by rw [List.length_cons, h5]⟩).eq0 (zvU _)
theorem zn1 (P : Int) : ∀ {l : List Row} {i : Nat}, zen P i l = false -> ∀ r ∈ l, lowR r = false
  | [], _, _, _, h => by cases h
  | x :: l, i, hf, r, h => by
    simp only [zen, Bool.or_eq_false_iff] at hf
    rcases List.mem_cons.1 h with rfl | h
    . exact hf.1.1
    . exact zn1 P hf.2 r h
theorem GoodCirc.okR {c0 v1 : Int} {v2 : List Row} {v3 : List Pr} (h : GoodCirc c0 v1 v2 v3) : ∀ r ∈ v2, OkR r := fun r hr => by
  have h1 := List.any_eq_false.1 h.big r hr
  have h2 := List.any_eq_false.1 h.unk r hr
  have h3 := zn1 c0 h.form r hr
  have hv := h.v200
  simp only [bigR, bg, Bool.or_eq_true, not_or, Bool.not_eq_true', decide_eq_false_iff_not, Decidable.not_not] at h1
  simp only [unkR, leI, Bool.or_eq_true, not_or, decide_eq_true_eq] at h2
  simp only [lowR, ltI, Bool.or_eq_false_iff, decide_eq_false_iff_not] at h3
  obtain ⟨⟨⟨⟨⟨⟨⟨g0, g1⟩, g2⟩, g3⟩, g4⟩, g5⟩, g6⟩, g7⟩ := h1
  refine ⟨fun x hx => ?_, ⟨by omega, by omega⟩, ⟨by omega, by omega⟩, ⟨by omega, by omega⟩⟩
  simp only [zdK, List.mem_cons, List.not_mem_nil, or_false] at hx
  rcases hx with rfl | rfl | rfl | rfl | rfl | rfl | rfl | rfl <;> assumption
theorem GoodCirc.okP {c0 v1 : Int} {v2 : List Row} {v3 : List Pr} (h : GoodCirc c0 v1 v2 v3) : ∀ p ∈ v3, OkP p := fun p hp => by
  have h1 := List.any_eq_false.1 h.unkp p hp
  have hv := h.v200
  simp only [unkP, leI, ltI, Bool.or_eq_true, not_or, decide_eq_true_eq] at h1
  exact ⟨⟨by omega, by omega⟩, by omega, by omega⟩
end
section
theorem zhB {c0 v1 : Int} {v2 : List Row} {v3 : List Pr} (h : GoodCirc c0 v1 v2 v3) : Enc zdA (encC c0 v1 v2 v3) (c0, v1, v2, v3, ()) := by
  have p0 := h.p0; have p8 := h.p8; have v0 := h.v0; have v200 := h.v200; have h2 := h.rows; have h3 := h.same
  have o4 := zc6 (n := (v3.length : Int)) (by omega) (by omega)
  have o3 := zc6 (n := (v2.length : Int)) (by omega) (by omega)
  have o2 := zc6 v0 (by omega)
  have o1 := zc6 p0 (by omega)
  have e1 : Enc (zbl (v2.length : Int).toNat) (zbG v2) v2 := by rw [Int.toNat_natCast]; exact zlg h.okR
  have e2 : Enc (prsP (v3.length : Int).toNat) (zco v3) v3 := by rw [Int.toNat_natCast]; exact znZ h.okP
  have s4 : ∀ c0 v1 : Int, ∀ v2 : List Row, ∀ m : Int, Sty (bnd (prsP m.toNat) fun v3 => ret ((c0, v1, v2, v3, ()) : Circ)) := fun _ _ _ _ => (zgo _).bnd fun _ => Sty.ret _
  have s3 : ∀ c0 v1 n m : Int, Sty (bnd (zbl n.toNat) fun v2 => bnd (prsP m.toNat) fun v3 => ret ((c0, v1, v2, v3, ()) : Circ)) := fun _ _ _ _ => (ze9 _).bnd fun _ => s4 _ _ _ _
  have s2 : ∀ c0 v1 n : Int, Sty (bnd octP fun m => bnd (zbl n.toNat) fun v2 => bnd (prsP m.toNat) fun v3 => ret ((c0, v1, v2, v3, ()) : Circ)) := fun c0 v1 n => zbz.bnd fun m => s3 c0 v1 n m
  have s1 : ∀ c0 v1 : Int, Sty (bnd octP fun n => bnd octP fun m => bnd (zbl n.toNat) fun v2 => bnd (prsP m.toNat) fun v3 => ret ((c0, v1, v2, v3, ()) : Circ)) := fun c0 v1 => zbz.bnd fun n => s2 c0 v1 n
  have s0 : ∀ c0 : Int, Sty (bnd octP fun v1 => bnd octP fun n => bnd octP fun m => bnd (zbl n.toNat) fun v2 => bnd (prsP m.toNat) fun v3 => ret ((c0, v1, v2, v3, ()) : Circ)) := fun c0 => zbz.bnd fun v1 => s1 c0 v1
  have k6 : Enc (bnd (prsP (v3.length : Int).toNat) fun (v3 : List Pr) => ret ((c0, v1, v2, v3, ()) : Circ)) (zco v3 ++ []) (c0, v1, v2, v3, ()) := Enc.bnd (q := fun (v3 : List Pr) => ret ((c0, v1, v2, v3, ()) : Circ)) e2 (fun _ => Sty.ret _) (Enc.ret _)
  have k5 : Enc (bnd (zbl (v2.length : Int).toNat) fun (v2 : List Row) => bnd (prsP (v3.length : Int).toNat) fun (v3 : List Pr) => ret ((c0, v1, v2, v3, ()) : Circ)) (zbG v2 ++ (zco v3 ++ [])) (c0, v1, v2, v3, ()) := Enc.bnd (q := fun (v2 : List Row) => bnd (prsP (v3.length : Int).toNat) fun (v3 : List Pr) => ret ((c0, v1, v2, v3, ()) : Circ)) e1 (fun v2 => s4 c0 v1 v2 (v3.length : Int)) k6
  have k4 : Enc (bnd octP fun (m : Int) => bnd (zbl (v2.length : Int).toNat) fun (v2 : List Row) => bnd (prsP m.toNat) fun (v3 : List Pr) => ret ((c0, v1, v2, v3, ()) : Circ)) ([u8I (v3.length : Int)] ++ (zbG v2 ++ (zco v3 ++ []))) (c0, v1, v2, v3, ()) := Enc.bnd (q := fun (m : Int) => bnd (zbl (v2.length : Int).toNat) fun (v2 : List Row) => bnd (prsP m.toNat) fun (v3 : List Pr) => ret ((c0, v1, v2, v3, ()) : Circ)) o4 (fun m => s3 c0 v1 (v2.length : Int) m) k5
  have k3 : Enc (bnd octP fun (n : Int) => bnd octP fun (m : Int) => bnd (zbl n.toNat) fun (v2 : List Row) => bnd (prsP m.toNat) fun (v3 : List Pr) => ret ((c0, v1, v2, v3, ()) : Circ)) ([u8I (v2.length : Int)] ++ ([u8I (v3.length : Int)] ++ (zbG v2 ++ (zco v3 ++ [])))) (c0, v1, v2, v3, ()) := Enc.bnd (q := fun (n : Int) => bnd octP fun (m : Int) => bnd (zbl n.toNat) fun (v2 : List Row) => bnd (prsP m.toNat) fun (v3 : List Pr) => ret ((c0, v1, v2, v3, ()) : Circ)) o3 (fun n => s2 c0 v1 n) k4
  have k2 : Enc (bnd octP fun (v1 : Int) => bnd octP fun (n : Int) => bnd octP fun (m : Int) => bnd (zbl n.toNat) fun (v2 : List Row) => bnd (prsP m.toNat) fun (v3 : List Pr) => ret ((c0, v1, v2, v3, ()) : Circ)) ([u8I v1] ++ ([u8I (v2.length : Int)] ++ ([u8I (v3.length : Int)] ++ (zbG v2 ++ (zco v3 ++ []))))) (c0, v1, v2, v3, ()) := Enc.bnd (q := fun (v1 : Int) => bnd octP fun (n : Int) => bnd octP fun (m : Int) => bnd (zbl n.toNat) fun (v2 : List Row) => bnd (prsP m.toNat) fun (v3 : List Pr) => ret ((c0, v1, v2, v3, ()) : Circ)) o2 (fun v1 => s1 c0 v1) k3
  have k1 : Enc zdA ([u8I c0] ++ ([u8I v1] ++ ([u8I (v2.length : Int)] ++ ([u8I (v3.length : Int)] ++ (zbG v2 ++ (zco v3 ++ [])))))) (c0, v1, v2, v3, ()) := Enc.bnd (q := fun (c0 : Int) => bnd octP fun (v1 : Int) => bnd octP fun (n : Int) => bnd octP fun (m : Int) => bnd (zbl n.toNat) fun (v2 : List Row) => bnd (prsP m.toNat) fun (v3 : List Pr) => ret ((c0, v1, v2, v3, ()) : Circ)) o1 (fun c0 => s0 c0) k2
  refine k1.of ?_
  simp only [encC, List.append_nil, List.cons_append, List.nil_append]
theorem zsQ : Inv zdA fun c bs => bs = encC c.1 c.2.1 c.2.2.1 c.2.2.2.1 := by
  have s4 : ∀ c0 v1 : Int, ∀ v2 : List Row, ∀ m : Int, Sty (bnd (prsP m.toNat) fun v3 => ret ((c0, v1, v2, v3, ()) : Circ)) := fun _ _ _ _ => (zgo _).bnd fun _ => Sty.ret _
  have s3 : ∀ c0 v1 n m : Int, Sty (bnd (zbl n.toNat) fun v2 => bnd (prsP m.toNat) fun v3 => ret ((c0, v1, v2, v3, ()) : Circ)) := fun _ _ _ _ => (ze9 _).bnd fun _ => s4 _ _ _ _
  refine (zfa.bnd (fun _ => zbz.bnd fun _ => zbz.bnd fun _ => zbz.bnd fun _ => s3 _ _ _ _) fun c0 =>
    zfa.bnd (fun _ => zbz.bnd fun _ => zbz.bnd fun _ => s3 _ _ _ _) fun v1 =>
    ze7.bnd (fun _ => zbz.bnd fun _ => s3 _ _ _ _) fun n =>
    ze7.bnd (fun _ => s3 _ _ _ _) fun m =>
    (zlh n.toNat).bnd (fun _ => s4 _ _ _ _) fun v2 => (zn0 m.toNat).bnd (fun _ => Sty.ret _) fun v3 => Inv.ret _).imp fun c bs h => ?_
  obtain ⟨c0, b1, b2, rfl, ⟨v1, b3, b4, rfl, ⟨n, b5, b6, ⟨x, rfl, rfl⟩, ⟨m, b7, b8, ⟨y, rfl, rfl⟩, ⟨v2, b9, b10, ⟨rfl, h1⟩, ⟨v3, b11, b12, ⟨rfl, h2⟩, ⟨rfl, rfl⟩, rfl⟩, rfl⟩, rfl⟩, rfl⟩, rfl⟩, rfl⟩ := h
  rw [Int.toNat_natCast] at h1 h2
  simp only [encC, h1, h2, zsM, List.append_nil]
  rfl
end
section
def up (m j i : Nat) (v : Int) (o : List Int) : List Int := if j = m then setL o i v else o
theorem zsR (m j i : Nat) (v : Int) (o : List Int) : (up m j i v o).length = o.length := by
  unfold up
  split
  . rw [zdh]
  . rfl
theorem cell {n j i : Nat} (hi : i < n) : (j * n + i) / n = j /\ (j * n + i) % n = i := by
  have h0 : 0 < n := by omega
  refine ⟨?_, ?_⟩
  . rw [Nat.mul_comm, Nat.mul_add_div h0, Nat.div_eq_of_lt hi, Nat.add_zero]
  . rw [Nat.mul_comm, Nat.mul_add_mod, Nat.mod_eq_of_lt hi]
structure PInv (k : Nat -> Int) (V n a : Nat) (fi la : List Int) (O : Nat -> Int) : Prop where
  lf : fi.length = V
  ll : la.length = V
  F : ∀ c : Nat, c < V -> (fi.getD c 0 = -1 /\ ∀ z, z < a -> k z ≠ c) \/ ∃ f g : Nat, fi.getD c 0 = f /\ la.getD c 0 = g /\ f <= g /\ g < a /\ k f = c /\ k g = c /\ (∀ z, z < f -> k z ≠ c) /\ ∀ z, g < z -> z < a -> k z ≠ c
  O : ∀ z, z < a -> (k z < 0 /\ O z = z) \/ ∃ c : Nat, c < V /\ k z = c /\ ((∃ y : Nat, z < y /\ y < a /\ k y = c /\ (∀ w, z < w -> w < y -> k w ≠ c) /\ O z = y) \/ ((∀ w, z < w -> w < a -> k w ≠ c) /\ O z = fi.getD c 0))
end
end Go.Proofs.Ytgimohchocjgcaa.V
