import Derived.Test.YtgimohchocjgcaaVWB9
import Derived.KernelRfl
set_option linter.unusedVariables false
set_option linter.unusedSimpArgs false
namespace Go.Proofs.Ytgimohchocjgcaa.V
section
theorem zza {N f nn i : Nat} (A : Int -> Int -> Int -> Int -> (List Row) -> (List Pr) -> (List Int) -> (List Int) -> (List Int) -> (List Int) -> (List Int) -> (List Int) -> (List Int) -> (List Int) -> (List Int) -> Option ((List Int × List Int × List Int × Unit) × Int × Unit)) (t54 c0 v1 : Int) (rows : List Row) (S : List Pr) (cl fi la x y z o0 o1 o2 : List Int) (hb : nn <= 64) (hi : i < nn) (ho : o0.length = nn) (hs : rows.length <= i \/ Row.w0 (rows.getD i zrow) < 0) :
    zaA N A (f + 1) (nn : Int) ((0 : Nat) : Int) t54 (nn : Int) (i : Int) c0 v1 rows S cl fi la x y z o0 o1 o2 = zaA N A f (nn : Int) ((0 : Nat) : Int) t54 (nn : Int) ((i + 1 : Nat) : Int) c0 v1 rows S cl fi la x y z (up 0 0 i ((0 * nn + i : Nat) : Int) o0) (up 1 0 i ((0 * nn + i : Nat) : Int) o1) (up 2 0 i ((0 * nn + i : Nat) : Int) o2) := by
  have hat : wr (wr (((0 : Nat) : Int) * (nn : Int)) + (i : Int)) = ((0 * nn + i : Nat) : Int) := by rw [show wr (((0 : Nat) : Int) * (nn : Int)) = ((0 : Nat) : Int) * (nn : Int) from zaX (by omega) (by omega), zaX (by omega) (by omega)]; omega
  have e0 : eqI ((0 : Nat) : Int) ((0 : Nat) : Int) = true := rfl
  have a1 : ltI (i : Int) (nn : Int) = true := zaa (by omega)
  have a2 : leI 0 (i : Int) = true := zae _
  have a3 : wr ((i : Int) + 1) = ((i + 1 : Nat) : Int) := zap (by omega)
  rw [zaJ]
  unfold zbe
  by_cases hr : rows.length <= i
  . have a4 : leI (rows.length : Int) (i : Int) = true := zay (by omega)
    simp only [a1, a2, a3, a4, e0, hat, ho, cond_true, cond_false, Bool.and_self, mst2, Int.toNat_natCast]
    rfl
  . have a4 : leI (rows.length : Int) (i : Int) = false := zan (by omega)
    have a5 : ltI (i : Int) (rows.length : Int) = true := zaa (by omega)
    have a6 : ltI (Row.w0 (rows.getD i zrow)) 0 = true := zaa (by omega)
    simp only [a1, a2, a3, a4, a5, a6, e0, hat, ho, cond_true, cond_false, Bool.and_self, mst2, Int.toNat_natCast]
    rfl
theorem zA8 {N f nn i : Nat} (A : Int -> Int -> Int -> Int -> (List Row) -> (List Pr) -> (List Int) -> (List Int) -> (List Int) -> (List Int) -> (List Int) -> (List Int) -> (List Int) -> (List Int) -> (List Int) -> Option ((List Int × List Int × List Int × Unit) × Int × Unit)) (t54 c0 v1 : Int) (rows : List Row) (S : List Pr) (cl fi la x y z o0 o1 o2 : List Int) (hb : nn <= 64) (hi : i < nn) (ho : o0.length = nn) (hr : i < rows.length) {v c V : Nat} (hw : Row.w0 (rows.getD i zrow) = (v : Int)) (hv : v < V) (hc : c < V) (hcl : cl.length = V) (hfi : fi.length = V) (hla : la.length = V) (hk : cl.getD v 0 = (c : Int)) (hn : fi.getD c 0 < 0) :
    zaA N A (f + 1) (nn : Int) ((0 : Nat) : Int) t54 (nn : Int) (i : Int) c0 v1 rows S cl fi la x y z o0 o1 o2 = zaA N A f (nn : Int) ((0 : Nat) : Int) t54 (nn : Int) ((i + 1 : Nat) : Int) c0 v1 rows S cl (setL fi c ((0 * nn + i : Nat) : Int)) (setL la c ((0 * nn + i : Nat) : Int)) x y z (up 0 0 i ((0 * nn + i : Nat) : Int) o0) (up 1 0 i ((0 * nn + i : Nat) : Int) o1) (up 2 0 i ((0 * nn + i : Nat) : Int) o2) := by
  have hat : wr (wr (((0 : Nat) : Int) * (nn : Int)) + (i : Int)) = ((0 * nn + i : Nat) : Int) := by rw [show wr (((0 : Nat) : Int) * (nn : Int)) = ((0 : Nat) : Int) * (nn : Int) from zaX (by omega) (by omega), zaX (by omega) (by omega)]; omega
  have e0 : eqI ((0 : Nat) : Int) ((0 : Nat) : Int) = true := rfl
  have a1 : ltI (i : Int) (nn : Int) = true := zaa (by omega)
  have a2 : leI 0 (i : Int) = true := zae _
  have a3 : wr ((i : Int) + 1) = ((i + 1 : Nat) : Int) := zap (by omega)
  have a4 : leI (rows.length : Int) (i : Int) = false := zan (by omega)
  have a5 : ltI (i : Int) (rows.length : Int) = true := zaa (by omega)
  have a6 : ltI (v : Int) 0 = false := zab (by omega)
  have a7 : leI 0 (v : Int) = true := zae _
  have a8 : ltI (v : Int) (V : Int) = true := zaa (by omega)
  have a9 : leI 0 (c : Int) = true := zae _
  have a10 : ltI (c : Int) (V : Int) = true := zaa (by omega)
  have a11 : ltI (fi.getD c 0) 0 = true := zaa hn
  rw [zaJ]
  unfold zbe
  simp only [a11, a1, a2, a3, a4, a5, a6, a7, a8, a9, a10, e0, hat, ho, hw, hk, hcl, hfi, hla, cond_true, cond_false, Bool.and_self, mst2, Int.toNat_natCast]
  rfl
theorem ztj {N f nn i : Nat} (A : Int -> Int -> Int -> Int -> (List Row) -> (List Pr) -> (List Int) -> (List Int) -> (List Int) -> (List Int) -> (List Int) -> (List Int) -> (List Int) -> (List Int) -> (List Int) -> Option ((List Int × List Int × List Int × Unit) × Int × Unit)) (t54 c0 v1 : Int) (rows : List Row) (S : List Pr) (cl fi la x y z o0 o1 o2 : List Int) (hb : nn <= 64) (hi : i < nn) (ho : o0.length = nn) (hr : i < rows.length) {v c V : Nat} (hw : Row.w0 (rows.getD i zrow) = (v : Int)) (hv : v < V) (hc : c < V) (hcl : cl.length = V) (hfi : fi.length = V) (hla : la.length = V) (hk : cl.getD v 0 = (c : Int)) (hn : ¬ fi.getD c 0 < 0) {g : Nat} (hg : la.getD c 0 = (g : Int)) (hq : g / nn = 0) (hg9 : g < 1000000) :
    zaA N A (f + 1) (nn : Int) ((0 : Nat) : Int) t54 (nn : Int) (i : Int) c0 v1 rows S cl fi la x y z o0 o1 o2 = zaA N A f (nn : Int) ((0 : Nat) : Int) t54 (nn : Int) ((i + 1 : Nat) : Int) c0 v1 rows S cl fi (setL la c ((0 * nn + i : Nat) : Int)) x y z (up 0 0 i (fi.getD c 0) (up 0 0 (g % nn) ((0 * nn + i : Nat) : Int) (up 0 0 i ((0 * nn + i : Nat) : Int) o0))) (up 1 0 i (fi.getD c 0) (up 1 0 (g % nn) ((0 * nn + i : Nat) : Int) (up 1 0 i ((0 * nn + i : Nat) : Int) o1))) (up 2 0 i (fi.getD c 0) (up 2 0 (g % nn) ((0 * nn + i : Nat) : Int) (up 2 0 i ((0 * nn + i : Nat) : Int) o2))) := by
  have hat : wr (wr (((0 : Nat) : Int) * (nn : Int)) + (i : Int)) = ((0 * nn + i : Nat) : Int) := by rw [show wr (((0 : Nat) : Int) * (nn : Int)) = ((0 : Nat) : Int) * (nn : Int) from zaX (by omega) (by omega), zaX (by omega) (by omega)]; omega
  have e0 : eqI ((0 : Nat) : Int) ((0 : Nat) : Int) = true := rfl
  have a1 : ltI (i : Int) (nn : Int) = true := zaa (by omega)
  have a2 : leI 0 (i : Int) = true := zae _
  have a3 : wr ((i : Int) + 1) = ((i + 1 : Nat) : Int) := zap (by omega)
  have a4 : leI (rows.length : Int) (i : Int) = false := zan (by omega)
  have a5 : ltI (i : Int) (rows.length : Int) = true := zaa (by omega)
  have a6 : ltI (v : Int) 0 = false := zab (by omega)
  have a7 : leI 0 (v : Int) = true := zae _
  have a8 : ltI (v : Int) (V : Int) = true := zaa (by omega)
  have a9 : leI 0 (c : Int) = true := zae _
  have a10 : ltI (c : Int) (V : Int) = true := zaa (by omega)
  have q0 : eqI ((0 : Nat) : Int) ((0 : Nat) : Int) = true := rfl
  have a11 : ltI (fi.getD c 0) 0 = false := zab hn
  have a12 : wr (Int.tdiv (g : Int) (nn : Int)) = ((0 : Nat) : Int) := by rw [zbp, zaX (by omega) (by omega), hq]
  have a13 : Int.tmod (g : Int) (nn : Int) = ((g % nn : Nat) : Int) := rfl
  have a14 : eqI (nn : Int) 0 = false := zaO (by omega)
  have a15 : leI 0 ((g % nn : Nat) : Int) = true := zae _
  have a16 : ltI ((g % nn : Nat) : Int) (nn : Int) = true := zaa (by have := Nat.mod_lt g (show 0 < nn by omega); omega)
  rw [zaJ]
  unfold zbe
  simp only [a11, a12, a13, a14, a15, a16, hg, q0, zaz, Bool.not_false, a1, a2, a3, a4, a5, a6, a7, a8, a9, a10, e0, hat, ho, hw, hk, hcl, hfi, hla, cond_true, cond_false, Bool.and_self, mst2, Int.toNat_natCast]
  rfl
theorem zzb {N f nn i : Nat} (A : Int -> Int -> Int -> Int -> (List Row) -> (List Pr) -> (List Int) -> (List Int) -> (List Int) -> (List Int) -> (List Int) -> (List Int) -> (List Int) -> (List Int) -> (List Int) -> Option ((List Int × List Int × List Int × Unit) × Int × Unit)) (t54 c0 v1 : Int) (rows : List Row) (S : List Pr) (cl fi la x y z o0 o1 o2 : List Int) (hb : nn <= 64) (hi : i < nn) (ho : o1.length = nn) (hs : rows.length <= i \/ Row.w1 (rows.getD i zrow) < 0) :
    zaA N A (f + 1) (nn : Int) ((1 : Nat) : Int) t54 (nn : Int) (i : Int) c0 v1 rows S cl fi la x y z o0 o1 o2 = zaA N A f (nn : Int) ((1 : Nat) : Int) t54 (nn : Int) ((i + 1 : Nat) : Int) c0 v1 rows S cl fi la x y z (up 0 1 i ((1 * nn + i : Nat) : Int) o0) (up 1 1 i ((1 * nn + i : Nat) : Int) o1) (up 2 1 i ((1 * nn + i : Nat) : Int) o2) := by
  have hat : wr (wr (((1 : Nat) : Int) * (nn : Int)) + (i : Int)) = ((1 * nn + i : Nat) : Int) := by rw [show wr (((1 : Nat) : Int) * (nn : Int)) = ((1 : Nat) : Int) * (nn : Int) from zaX (by omega) (by omega), zaX (by omega) (by omega)]; omega
  have e0 : eqI ((1 : Nat) : Int) ((0 : Nat) : Int) = false := rfl
  have e1 : eqI ((1 : Nat) : Int) (((0 : Nat) + (1 : Nat) : Nat) : Int) = true := rfl
  have a1 : ltI (i : Int) (nn : Int) = true := zaa (by omega)
  have a2 : leI 0 (i : Int) = true := zae _
  have a3 : wr ((i : Int) + 1) = ((i + 1 : Nat) : Int) := zap (by omega)
  rw [zaJ]
  unfold zbe
  by_cases hr : rows.length <= i
  . have a4 : leI (rows.length : Int) (i : Int) = true := zay (by omega)
    simp only [a1, a2, a3, a4, e0, e1, hat, ho, cond_true, cond_false, Bool.and_self, mst2, Int.toNat_natCast]
    rfl
  . have a4 : leI (rows.length : Int) (i : Int) = false := zan (by omega)
    have a5 : ltI (i : Int) (rows.length : Int) = true := zaa (by omega)
    have a6 : ltI (Row.w1 (rows.getD i zrow)) 0 = true := zaa (by omega)
    simp only [a1, a2, a3, a4, a5, a6, e0, e1, hat, ho, cond_true, cond_false, Bool.and_self, mst2, Int.toNat_natCast]
    rfl
theorem zA9 {N f nn i : Nat} (A : Int -> Int -> Int -> Int -> (List Row) -> (List Pr) -> (List Int) -> (List Int) -> (List Int) -> (List Int) -> (List Int) -> (List Int) -> (List Int) -> (List Int) -> (List Int) -> Option ((List Int × List Int × List Int × Unit) × Int × Unit)) (t54 c0 v1 : Int) (rows : List Row) (S : List Pr) (cl fi la x y z o0 o1 o2 : List Int) (hb : nn <= 64) (hi : i < nn) (ho : o1.length = nn) (hr : i < rows.length) {v c V : Nat} (hw : Row.w1 (rows.getD i zrow) = (v : Int)) (hv : v < V) (hc : c < V) (hcl : cl.length = V) (hfi : fi.length = V) (hla : la.length = V) (hk : cl.getD v 0 = (c : Int)) (hn : fi.getD c 0 < 0) :
    zaA N A (f + 1) (nn : Int) ((1 : Nat) : Int) t54 (nn : Int) (i : Int) c0 v1 rows S cl fi la x y z o0 o1 o2 = zaA N A f (nn : Int) ((1 : Nat) : Int) t54 (nn : Int) ((i + 1 : Nat) : Int) c0 v1 rows S cl (setL fi c ((1 * nn + i : Nat) : Int)) (setL la c ((1 * nn + i : Nat) : Int)) x y z (up 0 1 i ((1 * nn + i : Nat) : Int) o0) (up 1 1 i ((1 * nn + i : Nat) : Int) o1) (up 2 1 i ((1 * nn + i : Nat) : Int) o2) := by
  have hat : wr (wr (((1 : Nat) : Int) * (nn : Int)) + (i : Int)) = ((1 * nn + i : Nat) : Int) := by rw [show wr (((1 : Nat) : Int) * (nn : Int)) = ((1 : Nat) : Int) * (nn : Int) from zaX (by omega) (by omega), zaX (by omega) (by omega)]; omega
  have e0 : eqI ((1 : Nat) : Int) ((0 : Nat) : Int) = false := rfl
  have e1 : eqI ((1 : Nat) : Int) (((0 : Nat) + (1 : Nat) : Nat) : Int) = true := rfl
  have a1 : ltI (i : Int) (nn : Int) = true := zaa (by omega)
  have a2 : leI 0 (i : Int) = true := zae _
  have a3 : wr ((i : Int) + 1) = ((i + 1 : Nat) : Int) := zap (by omega)
  have a4 : leI (rows.length : Int) (i : Int) = false := zan (by omega)
  have a5 : ltI (i : Int) (rows.length : Int) = true := zaa (by omega)
  have a6 : ltI (v : Int) 0 = false := zab (by omega)
  have a7 : leI 0 (v : Int) = true := zae _
  have a8 : ltI (v : Int) (V : Int) = true := zaa (by omega)
  have a9 : leI 0 (c : Int) = true := zae _
  have a10 : ltI (c : Int) (V : Int) = true := zaa (by omega)
  have a11 : ltI (fi.getD c 0) 0 = true := zaa hn
  rw [zaJ]
  unfold zbe
  simp only [a11, a1, a2, a3, a4, a5, a6, a7, a8, a9, a10, e0, e1, hat, ho, hw, hk, hcl, hfi, hla, cond_true, cond_false, Bool.and_self, mst2, Int.toNat_natCast]
  rfl
theorem ztk {N f nn i : Nat} (A : Int -> Int -> Int -> Int -> (List Row) -> (List Pr) -> (List Int) -> (List Int) -> (List Int) -> (List Int) -> (List Int) -> (List Int) -> (List Int) -> (List Int) -> (List Int) -> Option ((List Int × List Int × List Int × Unit) × Int × Unit)) (t54 c0 v1 : Int) (rows : List Row) (S : List Pr) (cl fi la x y z o0 o1 o2 : List Int) (hb : nn <= 64) (hi : i < nn) (ho : o1.length = nn) (hoq : o0.length = nn) (hr : i < rows.length) {v c V : Nat} (hw : Row.w1 (rows.getD i zrow) = (v : Int)) (hv : v < V) (hc : c < V) (hcl : cl.length = V) (hfi : fi.length = V) (hla : la.length = V) (hk : cl.getD v 0 = (c : Int)) (hn : ¬ fi.getD c 0 < 0) {g : Nat} (hg : la.getD c 0 = (g : Int)) (hq : g / nn = 0) (hg9 : g < 1000000) :
    zaA N A (f + 1) (nn : Int) ((1 : Nat) : Int) t54 (nn : Int) (i : Int) c0 v1 rows S cl fi la x y z o0 o1 o2 = zaA N A f (nn : Int) ((1 : Nat) : Int) t54 (nn : Int) ((i + 1 : Nat) : Int) c0 v1 rows S cl fi (setL la c ((1 * nn + i : Nat) : Int)) x y z (up 0 1 i (fi.getD c 0) (up 0 0 (g % nn) ((1 * nn + i : Nat) : Int) (up 0 1 i ((1 * nn + i : Nat) : Int) o0))) (up 1 1 i (fi.getD c 0) (up 1 0 (g % nn) ((1 * nn + i : Nat) : Int) (up 1 1 i ((1 * nn + i : Nat) : Int) o1))) (up 2 1 i (fi.getD c 0) (up 2 0 (g % nn) ((1 * nn + i : Nat) : Int) (up 2 1 i ((1 * nn + i : Nat) : Int) o2))) := by
  have hat : wr (wr (((1 : Nat) : Int) * (nn : Int)) + (i : Int)) = ((1 * nn + i : Nat) : Int) := by rw [show wr (((1 : Nat) : Int) * (nn : Int)) = ((1 : Nat) : Int) * (nn : Int) from zaX (by omega) (by omega), zaX (by omega) (by omega)]; omega
  have e0 : eqI ((1 : Nat) : Int) ((0 : Nat) : Int) = false := rfl
  have e1 : eqI ((1 : Nat) : Int) (((0 : Nat) + (1 : Nat) : Nat) : Int) = true := rfl
  have a1 : ltI (i : Int) (nn : Int) = true := zaa (by omega)
  have a2 : leI 0 (i : Int) = true := zae _
  have a3 : wr ((i : Int) + 1) = ((i + 1 : Nat) : Int) := zap (by omega)
  have a4 : leI (rows.length : Int) (i : Int) = false := zan (by omega)
  have a5 : ltI (i : Int) (rows.length : Int) = true := zaa (by omega)
  have a6 : ltI (v : Int) 0 = false := zab (by omega)
  have a7 : leI 0 (v : Int) = true := zae _
  have a8 : ltI (v : Int) (V : Int) = true := zaa (by omega)
  have a9 : leI 0 (c : Int) = true := zae _
  have a10 : ltI (c : Int) (V : Int) = true := zaa (by omega)
  have q0 : eqI ((0 : Nat) : Int) ((0 : Nat) : Int) = true := rfl
  have a11 : ltI (fi.getD c 0) 0 = false := zab hn
  have a12 : wr (Int.tdiv (g : Int) (nn : Int)) = ((0 : Nat) : Int) := by rw [zbp, zaX (by omega) (by omega), hq]
  have a13 : Int.tmod (g : Int) (nn : Int) = ((g % nn : Nat) : Int) := rfl
  have a14 : eqI (nn : Int) 0 = false := zaO (by omega)
  have a15 : leI 0 ((g % nn : Nat) : Int) = true := zae _
  have a16 : ltI ((g % nn : Nat) : Int) (nn : Int) = true := zaa (by have := Nat.mod_lt g (show 0 < nn by omega); omega)
  rw [zaJ]
  unfold zbe
  simp only [a11, a12, a13, a14, a15, a16, hg, q0, hoq, zaz, Bool.not_false, a1, a2, a3, a4, a5, a6, a7, a8, a9, a10, e0, e1, hat, ho, hw, hk, hcl, hfi, hla, cond_true, cond_false, Bool.and_self, mst2, Int.toNat_natCast]
  rfl
theorem ztl {N f nn i : Nat} (A : Int -> Int -> Int -> Int -> (List Row) -> (List Pr) -> (List Int) -> (List Int) -> (List Int) -> (List Int) -> (List Int) -> (List Int) -> (List Int) -> (List Int) -> (List Int) -> Option ((List Int × List Int × List Int × Unit) × Int × Unit)) (t54 c0 v1 : Int) (rows : List Row) (S : List Pr) (cl fi la x y z o0 o1 o2 : List Int) (hb : nn <= 64) (hi : i < nn) (ho : o1.length = nn) (hr : i < rows.length) {v c V : Nat} (hw : Row.w1 (rows.getD i zrow) = (v : Int)) (hv : v < V) (hc : c < V) (hcl : cl.length = V) (hfi : fi.length = V) (hla : la.length = V) (hk : cl.getD v 0 = (c : Int)) (hn : ¬ fi.getD c 0 < 0) {g : Nat} (hg : la.getD c 0 = (g : Int)) (hq : g / nn = 1) (hg9 : g < 1000000) :
    zaA N A (f + 1) (nn : Int) ((1 : Nat) : Int) t54 (nn : Int) (i : Int) c0 v1 rows S cl fi la x y z o0 o1 o2 = zaA N A f (nn : Int) ((1 : Nat) : Int) t54 (nn : Int) ((i + 1 : Nat) : Int) c0 v1 rows S cl fi (setL la c ((1 * nn + i : Nat) : Int)) x y z (up 0 1 i (fi.getD c 0) (up 0 1 (g % nn) ((1 * nn + i : Nat) : Int) (up 0 1 i ((1 * nn + i : Nat) : Int) o0))) (up 1 1 i (fi.getD c 0) (up 1 1 (g % nn) ((1 * nn + i : Nat) : Int) (up 1 1 i ((1 * nn + i : Nat) : Int) o1))) (up 2 1 i (fi.getD c 0) (up 2 1 (g % nn) ((1 * nn + i : Nat) : Int) (up 2 1 i ((1 * nn + i : Nat) : Int) o2))) := by
  have hat : wr (wr (((1 : Nat) : Int) * (nn : Int)) + (i : Int)) = ((1 * nn + i : Nat) : Int) := by rw [show wr (((1 : Nat) : Int) * (nn : Int)) = ((1 : Nat) : Int) * (nn : Int) from zaX (by omega) (by omega), zaX (by omega) (by omega)]; omega
  have e0 : eqI ((1 : Nat) : Int) ((0 : Nat) : Int) = false := rfl
  have e1 : eqI ((1 : Nat) : Int) (((0 : Nat) + (1 : Nat) : Nat) : Int) = true := rfl
  have a1 : ltI (i : Int) (nn : Int) = true := zaa (by omega)
  have a2 : leI 0 (i : Int) = true := zae _
  have a3 : wr ((i : Int) + 1) = ((i + 1 : Nat) : Int) := zap (by omega)
  have a4 : leI (rows.length : Int) (i : Int) = false := zan (by omega)
  have a5 : ltI (i : Int) (rows.length : Int) = true := zaa (by omega)
  have a6 : ltI (v : Int) 0 = false := zab (by omega)
  have a7 : leI 0 (v : Int) = true := zae _
  have a8 : ltI (v : Int) (V : Int) = true := zaa (by omega)
  have a9 : leI 0 (c : Int) = true := zae _
  have a10 : ltI (c : Int) (V : Int) = true := zaa (by omega)
  have q0 : eqI ((1 : Nat) : Int) ((0 : Nat) : Int) = false := rfl
  have q1 : eqI ((1 : Nat) : Int) (((0 : Nat) + (1 : Nat) : Nat) : Int) = true := rfl
  have a11 : ltI (fi.getD c 0) 0 = false := zab hn
  have a12 : wr (Int.tdiv (g : Int) (nn : Int)) = ((1 : Nat) : Int) := by rw [zbp, zaX (by omega) (by omega), hq]
  have a13 : Int.tmod (g : Int) (nn : Int) = ((g % nn : Nat) : Int) := rfl
  have a14 : eqI (nn : Int) 0 = false := zaO (by omega)
  have a15 : leI 0 ((g % nn : Nat) : Int) = true := zae _
  have a16 : ltI ((g % nn : Nat) : Int) (nn : Int) = true := zaa (by have := Nat.mod_lt g (show 0 < nn by omega); omega)
  rw [zaJ]
  unfold zbe
  simp only [a11, a12, a13, a14, a15, a16, hg, q0, q1, zaz, Bool.not_false, a1, a2, a3, a4, a5, a6, a7, a8, a9, a10, e0, e1, hat, ho, hw, hk, hcl, hfi, hla, cond_true, cond_false, Bool.and_self, mst2, Int.toNat_natCast]
  rfl
theorem zzc {N f nn i : Nat} (A : Int -> Int -> Int -> Int -> (List Row) -> (List Pr) -> (List Int) -> (List Int) -> (List Int) -> (List Int) -> (List Int) -> (List Int) -> (List Int) -> (List Int) -> (List Int) -> Option ((List Int × List Int × List Int × Unit) × Int × Unit)) (t54 c0 v1 : Int) (rows : List Row) (S : List Pr) (cl fi la x y z o0 o1 o2 : List Int) (hb : nn <= 64) (hi : i < nn) (ho : o2.length = nn) (hs : rows.length <= i \/ Row.w2 (rows.getD i zrow) < 0) :
    zaA N A (f + 1) (nn : Int) ((2 : Nat) : Int) t54 (nn : Int) (i : Int) c0 v1 rows S cl fi la x y z o0 o1 o2 = zaA N A f (nn : Int) ((2 : Nat) : Int) t54 (nn : Int) ((i + 1 : Nat) : Int) c0 v1 rows S cl fi la x y z (up 0 2 i ((2 * nn + i : Nat) : Int) o0) (up 1 2 i ((2 * nn + i : Nat) : Int) o1) (up 2 2 i ((2 * nn + i : Nat) : Int) o2) := by
  have hat : wr (wr (((2 : Nat) : Int) * (nn : Int)) + (i : Int)) = ((2 * nn + i : Nat) : Int) := by rw [show wr (((2 : Nat) : Int) * (nn : Int)) = ((2 : Nat) : Int) * (nn : Int) from zaX (by omega) (by omega), zaX (by omega) (by omega)]; omega
  have e0 : eqI ((2 : Nat) : Int) ((0 : Nat) : Int) = false := rfl
  have e1 : eqI ((2 : Nat) : Int) (((0 : Nat) + (1 : Nat) : Nat) : Int) = false := rfl
  have e2 : eqI ((2 : Nat) : Int) (((0 : Nat) + (1 : Nat) + (1 : Nat) : Nat) : Int) = true := rfl
  have a1 : ltI (i : Int) (nn : Int) = true := zaa (by omega)
  have a2 : leI 0 (i : Int) = true := zae _
  have a3 : wr ((i : Int) + 1) = ((i + 1 : Nat) : Int) := zap (by omega)
  rw [zaJ]
  unfold zbe
  by_cases hr : rows.length <= i
  . have a4 : leI (rows.length : Int) (i : Int) = true := zay (by omega)
    simp only [a1, a2, a3, a4, e0, e1, e2, hat, ho, cond_true, cond_false, Bool.and_self, mst2, Int.toNat_natCast]
    rfl
  . have a4 : leI (rows.length : Int) (i : Int) = false := zan (by omega)
    have a5 : ltI (i : Int) (rows.length : Int) = true := zaa (by omega)
    have a6 : ltI (Row.w2 (rows.getD i zrow)) 0 = true := zaa (by omega)
    simp only [a1, a2, a3, a4, a5, a6, e0, e1, e2, hat, ho, cond_true, cond_false, Bool.and_self, mst2, Int.toNat_natCast]
    rfl
theorem zBa {N f nn i : Nat} (A : Int -> Int -> Int -> Int -> (List Row) -> (List Pr) -> (List Int) -> (List Int) -> (List Int) -> (List Int) -> (List Int) -> (List Int) -> (List Int) -> (List Int) -> (List Int) -> Option ((List Int × List Int × List Int × Unit) × Int × Unit)) (t54 c0 v1 : Int) (rows : List Row) (S : List Pr) (cl fi la x y z o0 o1 o2 : List Int) (hb : nn <= 64) (hi : i < nn) (ho : o2.length = nn) (hr : i < rows.length) {v c V : Nat} (hw : Row.w2 (rows.getD i zrow) = (v : Int)) (hv : v < V) (hc : c < V) (hcl : cl.length = V) (hfi : fi.length = V) (hla : la.length = V) (hk : cl.getD v 0 = (c : Int)) (hn : fi.getD c 0 < 0) :
    zaA N A (f + 1) (nn : Int) ((2 : Nat) : Int) t54 (nn : Int) (i : Int) c0 v1 rows S cl fi la x y z o0 o1 o2 = zaA N A f (nn : Int) ((2 : Nat) : Int) t54 (nn : Int) ((i + 1 : Nat) : Int) c0 v1 rows S cl (setL fi c ((2 * nn + i : Nat) : Int)) (setL la c ((2 * nn + i : Nat) : Int)) x y z (up 0 2 i ((2 * nn + i : Nat) : Int) o0) (up 1 2 i ((2 * nn + i : Nat) : Int) o1) (up 2 2 i ((2 * nn + i : Nat) : Int) o2) := by
  have hat : wr (wr (((2 : Nat) : Int) * (nn : Int)) + (i : Int)) = ((2 * nn + i : Nat) : Int) := by rw [show wr (((2 : Nat) : Int) * (nn : Int)) = ((2 : Nat) : Int) * (nn : Int) from zaX (by omega) (by omega), zaX (by omega) (by omega)]; omega
  have e0 : eqI ((2 : Nat) : Int) ((0 : Nat) : Int) = false := rfl
  have e1 : eqI ((2 : Nat) : Int) (((0 : Nat) + (1 : Nat) : Nat) : Int) = false := rfl
  have e2 : eqI ((2 : Nat) : Int) (((0 : Nat) + (1 : Nat) + (1 : Nat) : Nat) : Int) = true := rfl
  have a1 : ltI (i : Int) (nn : Int) = true := zaa (by omega)
  have a2 : leI 0 (i : Int) = true := zae _
  have a3 : wr ((i : Int) + 1) = ((i + 1 : Nat) : Int) := zap (by omega)
  have a4 : leI (rows.length : Int) (i : Int) = false := zan (by omega)
  have a5 : ltI (i : Int) (rows.length : Int) = true := zaa (by omega)
  have a6 : ltI (v : Int) 0 = false := zab (by omega)
  have a7 : leI 0 (v : Int) = true := zae _
  have a8 : ltI (v : Int) (V : Int) = true := zaa (by omega)
  have a9 : leI 0 (c : Int) = true := zae _
  have a10 : ltI (c : Int) (V : Int) = true := zaa (by omega)
  have a11 : ltI (fi.getD c 0) 0 = true := zaa hn
  rw [zaJ]
  unfold zbe
  simp only [a11, a1, a2, a3, a4, a5, a6, a7, a8, a9, a10, e0, e1, e2, hat, ho, hw, hk, hcl, hfi, hla, cond_true, cond_false, Bool.and_self, mst2, Int.toNat_natCast]
  rfl
theorem ztm {N f nn i : Nat} (A : Int -> Int -> Int -> Int -> (List Row) -> (List Pr) -> (List Int) -> (List Int) -> (List Int) -> (List Int) -> (List Int) -> (List Int) -> (List Int) -> (List Int) -> (List Int) -> Option ((List Int × List Int × List Int × Unit) × Int × Unit)) (t54 c0 v1 : Int) (rows : List Row) (S : List Pr) (cl fi la x y z o0 o1 o2 : List Int) (hb : nn <= 64) (hi : i < nn) (ho : o2.length = nn) (hoq : o0.length = nn) (hr : i < rows.length) {v c V : Nat} (hw : Row.w2 (rows.getD i zrow) = (v : Int)) (hv : v < V) (hc : c < V) (hcl : cl.length = V) (hfi : fi.length = V) (hla : la.length = V) (hk : cl.getD v 0 = (c : Int)) (hn : ¬ fi.getD c 0 < 0) {g : Nat} (hg : la.getD c 0 = (g : Int)) (hq : g / nn = 0) (hg9 : g < 1000000) :
    zaA N A (f + 1) (nn : Int) ((2 : Nat) : Int) t54 (nn : Int) (i : Int) c0 v1 rows S cl fi la x y z o0 o1 o2 = zaA N A f (nn : Int) ((2 : Nat) : Int) t54 (nn : Int) ((i + 1 : Nat) : Int) c0 v1 rows S cl fi (setL la c ((2 * nn + i : Nat) : Int)) x y z (up 0 2 i (fi.getD c 0) (up 0 0 (g % nn) ((2 * nn + i : Nat) : Int) (up 0 2 i ((2 * nn + i : Nat) : Int) o0))) (up 1 2 i (fi.getD c 0) (up 1 0 (g % nn) ((2 * nn + i : Nat) : Int) (up 1 2 i ((2 * nn + i : Nat) : Int) o1))) (up 2 2 i (fi.getD c 0) (up 2 0 (g % nn) ((2 * nn + i : Nat) : Int) (up 2 2 i ((2 * nn + i : Nat) : Int) o2))) := by
  have hat : wr (wr (((2 : Nat) : Int) * (nn : Int)) + (i : Int)) = ((2 * nn + i : Nat) : Int) := by rw [show wr (((2 : Nat) : Int) * (nn : Int)) = ((2 : Nat) : Int) * (nn : Int) from zaX (by omega) (by omega), zaX (by omega) (by omega)]; omega
  have e0 : eqI ((2 : Nat) : Int) ((0 : Nat) : Int) = false := rfl
  have e1 : eqI ((2 : Nat) : Int) (((0 : Nat) + (1 : Nat) : Nat) : Int) = false := rfl
  have e2 : eqI ((2 : Nat) : Int) (((0 : Nat) + (1 : Nat) + (1 : Nat) : Nat) : Int) = true := rfl
  have a1 : ltI (i : Int) (nn : Int) = true := zaa (by omega)
  have a2 : leI 0 (i : Int) = true := zae _
  have a3 : wr ((i : Int) + 1) = ((i + 1 : Nat) : Int) := zap (by omega)
  have a4 : leI (rows.length : Int) (i : Int) = false := zan (by omega)
  have a5 : ltI (i : Int) (rows.length : Int) = true := zaa (by omega)
  have a6 : ltI (v : Int) 0 = false := zab (by omega)
  have a7 : leI 0 (v : Int) = true := zae _
  have a8 : ltI (v : Int) (V : Int) = true := zaa (by omega)
  have a9 : leI 0 (c : Int) = true := zae _
  have a10 : ltI (c : Int) (V : Int) = true := zaa (by omega)
  have q0 : eqI ((0 : Nat) : Int) ((0 : Nat) : Int) = true := rfl
  have a11 : ltI (fi.getD c 0) 0 = false := zab hn
  have a12 : wr (Int.tdiv (g : Int) (nn : Int)) = ((0 : Nat) : Int) := by rw [zbp, zaX (by omega) (by omega), hq]
  have a13 : Int.tmod (g : Int) (nn : Int) = ((g % nn : Nat) : Int) := rfl
  have a14 : eqI (nn : Int) 0 = false := zaO (by omega)
  have a15 : leI 0 ((g % nn : Nat) : Int) = true := zae _
  have a16 : ltI ((g % nn : Nat) : Int) (nn : Int) = true := zaa (by have := Nat.mod_lt g (show 0 < nn by omega); omega)
  rw [zaJ]
  unfold zbe
  simp only [a11, a12, a13, a14, a15, a16, hg, q0, hoq, zaz, Bool.not_false, a1, a2, a3, a4, a5, a6, a7, a8, a9, a10, e0, e1, e2, hat, ho, hw, hk, hcl, hfi, hla, cond_true, cond_false, Bool.and_self, mst2, Int.toNat_natCast]
  rfl
theorem ztn {N f nn i : Nat} (A : Int -> Int -> Int -> Int -> (List Row) -> (List Pr) -> (List Int) -> (List Int) -> (List Int) -> (List Int) -> (List Int) -> (List Int) -> (List Int) -> (List Int) -> (List Int) -> Option ((List Int × List Int × List Int × Unit) × Int × Unit)) (t54 c0 v1 : Int) (rows : List Row) (S : List Pr) (cl fi la x y z o0 o1 o2 : List Int) (hb : nn <= 64) (hi : i < nn) (ho : o2.length = nn) (hoq : o1.length = nn) (hr : i < rows.length) {v c V : Nat} (hw : Row.w2 (rows.getD i zrow) = (v : Int)) (hv : v < V) (hc : c < V) (hcl : cl.length = V) (hfi : fi.length = V) (hla : la.length = V) (hk : cl.getD v 0 = (c : Int)) (hn : ¬ fi.getD c 0 < 0) {g : Nat} (hg : la.getD c 0 = (g : Int)) (hq : g / nn = 1) (hg9 : g < 1000000) :
    zaA N A (f + 1) (nn : Int) ((2 : Nat) : Int) t54 (nn : Int) (i : Int) c0 v1 rows S cl fi la x y z o0 o1 o2 = zaA N A f (nn : Int) ((2 : Nat) : Int) t54 (nn : Int) ((i + 1 : Nat) : Int) c0 v1 rows S cl fi (setL la c ((2 * nn + i : Nat) : Int)) x y z (up 0 2 i (fi.getD c 0) (up 0 1 (g % nn) ((2 * nn + i : Nat) : Int) (up 0 2 i ((2 * nn + i : Nat) : Int) o0))) (up 1 2 i (fi.getD c 0) (up 1 1 (g % nn) ((2 * nn + i : Nat) : Int) (up 1 2 i ((2 * nn + i : Nat) : Int) o1))) (up 2 2 i (fi.getD c 0) (up 2 1 (g % nn) ((2 * nn + i : Nat) : Int) (up 2 2 i ((2 * nn + i : Nat) : Int) o2))) := by
  have hat : wr (wr (((2 : Nat) : Int) * (nn : Int)) + (i : Int)) = ((2 * nn + i : Nat) : Int) := by rw [show wr (((2 : Nat) : Int) * (nn : Int)) = ((2 : Nat) : Int) * (nn : Int) from zaX (by omega) (by omega), zaX (by omega) (by omega)]; omega
  have e0 : eqI ((2 : Nat) : Int) ((0 : Nat) : Int) = false := rfl
  have e1 : eqI ((2 : Nat) : Int) (((0 : Nat) + (1 : Nat) : Nat) : Int) = false := rfl
  have e2 : eqI ((2 : Nat) : Int) (((0 : Nat) + (1 : Nat) + (1 : Nat) : Nat) : Int) = true := rfl
  have a1 : ltI (i : Int) (nn : Int) = true := zaa (by omega)
  have a2 : leI 0 (i : Int) = true := zae _
  have a3 : wr ((i : Int) + 1) = ((i + 1 : Nat) : Int) := zap (by omega)
  have a4 : leI (rows.length : Int) (i : Int) = false := zan (by omega)
  have a5 : ltI (i : Int) (rows.length : Int) = true := zaa (by omega)
  have a6 : ltI (v : Int) 0 = false := zab (by omega)
  have a7 : leI 0 (v : Int) = true := zae _
  have a8 : ltI (v : Int) (V : Int) = true := zaa (by omega)
  have a9 : leI 0 (c : Int) = true := zae _
  have a10 : ltI (c : Int) (V : Int) = true := zaa (by omega)
  have q0 : eqI ((1 : Nat) : Int) ((0 : Nat) : Int) = false := rfl
  have q1 : eqI ((1 : Nat) : Int) (((0 : Nat) + (1 : Nat) : Nat) : Int) = true := rfl
  have a11 : ltI (fi.getD c 0) 0 = false := zab hn
  have a12 : wr (Int.tdiv (g : Int) (nn : Int)) = ((1 : Nat) : Int) := by rw [zbp, zaX (by omega) (by omega), hq]
  have a13 : Int.tmod (g : Int) (nn : Int) = ((g % nn : Nat) : Int) := rfl
  have a14 : eqI (nn : Int) 0 = false := zaO (by omega)
  have a15 : leI 0 ((g % nn : Nat) : Int) = true := zae _
  have a16 : ltI ((g % nn : Nat) : Int) (nn : Int) = true := zaa (by have := Nat.mod_lt g (show 0 < nn by omega); omega)
  rw [zaJ]
  unfold zbe
  simp only [a11, a12, a13, a14, a15, a16, hg, q0, q1, hoq, zaz, Bool.not_false, a1, a2, a3, a4, a5, a6, a7, a8, a9, a10, e0, e1, e2, hat, ho, hw, hk, hcl, hfi, hla, cond_true, cond_false, Bool.and_self, mst2, Int.toNat_natCast]
  rfl
theorem zto {N f nn i : Nat} (A : Int -> Int -> Int -> Int -> (List Row) -> (List Pr) -> (List Int) -> (List Int) -> (List Int) -> (List Int) -> (List Int) -> (List Int) -> (List Int) -> (List Int) -> (List Int) -> Option ((List Int × List Int × List Int × Unit) × Int × Unit)) (t54 c0 v1 : Int) (rows : List Row) (S : List Pr) (cl fi la x y z o0 o1 o2 : List Int) (hb : nn <= 64) (hi : i < nn) (ho : o2.length = nn) (hr : i < rows.length) {v c V : Nat} (hw : Row.w2 (rows.getD i zrow) = (v : Int)) (hv : v < V) (hc : c < V) (hcl : cl.length = V) (hfi : fi.length = V) (hla : la.length = V) (hk : cl.getD v 0 = (c : Int)) (hn : ¬ fi.getD c 0 < 0) {g : Nat} (hg : la.getD c 0 = (g : Int)) (hq : g / nn = 2) (hg9 : g < 1000000) :
    zaA N A (f + 1) (nn : Int) ((2 : Nat) : Int) t54 (nn : Int) (i : Int) c0 v1 rows S cl fi la x y z o0 o1 o2 = zaA N A f (nn : Int) ((2 : Nat) : Int) t54 (nn : Int) ((i + 1 : Nat) : Int) c0 v1 rows S cl fi (setL la c ((2 * nn + i : Nat) : Int)) x y z (up 0 2 i (fi.getD c 0) (up 0 2 (g % nn) ((2 * nn + i : Nat) : Int) (up 0 2 i ((2 * nn + i : Nat) : Int) o0))) (up 1 2 i (fi.getD c 0) (up 1 2 (g % nn) ((2 * nn + i : Nat) : Int) (up 1 2 i ((2 * nn + i : Nat) : Int) o1))) (up 2 2 i (fi.getD c 0) (up 2 2 (g % nn) ((2 * nn + i : Nat) : Int) (up 2 2 i ((2 * nn + i : Nat) : Int) o2))) := by
  have hat : wr (wr (((2 : Nat) : Int) * (nn : Int)) + (i : Int)) = ((2 * nn + i : Nat) : Int) := by rw [show wr (((2 : Nat) : Int) * (nn : Int)) = ((2 : Nat) : Int) * (nn : Int) from zaX (by omega) (by omega), zaX (by omega) (by omega)]; omega
  have e0 : eqI ((2 : Nat) : Int) ((0 : Nat) : Int) = false := rfl
  have e1 : eqI ((2 : Nat) : Int) (((0 : Nat) + (1 : Nat) : Nat) : Int) = false := rfl
  have e2 : eqI ((2 : Nat) : Int) (((0 : Nat) + (1 : Nat) + (1 : Nat) : Nat) : Int) = true := rfl
  have a1 : ltI (i : Int) (nn : Int) = true := zaa (by omega)
  have a2 : leI 0 (i : Int) = true := zae _
  have a3 : wr ((i : Int) + 1) = ((i + 1 : Nat) : Int) := zap (by omega)
  have a4 : leI (rows.length : Int) (i : Int) = false := zan (by omega)
  have a5 : ltI (i : Int) (rows.length : Int) = true := zaa (by omega)
  have a6 : ltI (v : Int) 0 = false := zab (by omega)
  have a7 : leI 0 (v : Int) = true := zae _
  have a8 : ltI (v : Int) (V : Int) = true := zaa (by omega)
  have a9 : leI 0 (c : Int) = true := zae _
  have a10 : ltI (c : Int) (V : Int) = true := zaa (by omega)
  have q0 : eqI ((2 : Nat) : Int) ((0 : Nat) : Int) = false := rfl
  have q1 : eqI ((2 : Nat) : Int) (((0 : Nat) + (1 : Nat) : Nat) : Int) = false := rfl
  have q2 : eqI ((2 : Nat) : Int) (((0 : Nat) + (1 : Nat) + (1 : Nat) : Nat) : Int) = true := rfl
  have a11 : ltI (fi.getD c 0) 0 = false := zab hn
  have a12 : wr (Int.tdiv (g : Int) (nn : Int)) = ((2 : Nat) : Int) := by rw [zbp, zaX (by omega) (by omega), hq]
  have a13 : Int.tmod (g : Int) (nn : Int) = ((g % nn : Nat) : Int) := rfl
  have a14 : eqI (nn : Int) 0 = false := zaO (by omega)
  have a15 : leI 0 ((g % nn : Nat) : Int) = true := zae _
  have a16 : ltI ((g % nn : Nat) : Int) (nn : Int) = true := zaa (by have := Nat.mod_lt g (show 0 < nn by omega); omega)
  rw [zaJ]
  unfold zbe
  simp only [a11, a12, a13, a14, a15, a16, hg, q0, q1, q2, zaz, Bool.not_false, a1, a2, a3, a4, a5, a6, a7, a8, a9, a10, e0, e1, e2, hat, ho, hw, hk, hcl, hfi, hla, cond_true, cond_false, Bool.and_self, mst2, Int.toNat_natCast]
  rfl
end
section
def Len3 (n j : Nat) (o0 o1 o2 : List Int) : Prop := o0.length = n /\ (1 <= j -> o1.length = n) /\ (2 <= j -> o2.length = n)
theorem Len3.up {n j : Nat} {o0 o1 o2 : List Int} (h : Len3 n j o0 o1 o2) (q i : Nat) (v : Int) : Len3 n j (up 0 q i v o0) (up 1 q i v o1) (up 2 q i v o2) :=
  ⟨by rw [zre]; exact h.1, fun hj => by rw [zre]; exact h.2.1 hj, fun hj => by rw [zre]; exact h.2.2 hj⟩
structure Ground (cl : List Int) (rows : List Row) (n V : Nat) : Prop where
  n1 : 1 <= n
  n64 : n <= 64
  rl : rows.length <= n
  lc : cl.length = V
  cc : ∀ v : Nat, v < V -> ∃ c : Nat, c < V /\ cl.getD v 0 = (c : Int)
  vars : ∀ r ∈ rows, ∀ j, -1 <= rw3 r j /\ rw3 r j < (V : Int)
theorem zuc {rows : List Row} {i : Nat} (h : i < rows.length) : rows.getD i zrow ∈ rows := by
  rw [List.getD_eq_getElem?_getD, List.getElem?_eq_getElem h]
  exact List.getElem_mem h
theorem zrg {N f nn i j V : Nat} {A : Int -> Int -> Int -> Int -> (List Row) -> (List Pr) -> (List Int) -> (List Int) -> (List Int) -> (List Int) -> (List Int) -> (List Int) -> (List Int) -> (List Int) -> (List Int) -> Option ((List Int × List Int × List Int × Unit) × Int × Unit)} {t54 c0 v1 : Int} {rows : List Row} {S : List Pr} {cl fi la x y z o0 o1 o2 : List Int}
    (G : Ground cl rows nn V) (hj : j < 3) (hi : i < nn) (hl : Len3 nn j o0 o1 o2) (h : PInv (kC cl rows nn) V nn (j * nn + i) fi la (oG nn o0 o1 o2)) :
    ∃ fi' la' p0 p1 p2, zaA N A (f + 1) (nn : Int) (j : Int) t54 (nn : Int) (i : Int) c0 v1 rows S cl fi la x y z o0 o1 o2 = zaA N A f (nn : Int) (j : Int) t54 (nn : Int) ((i + 1 : Nat) : Int) c0 v1 rows S cl fi' la' x y z p0 p1 p2 /\
      Len3 nn j p0 p1 p2 /\ PInv (kC cl rows nn) V nn (j * nn + i + 1) fi' la' (oG nn p0 p1 p2) := by
  have hb := G.n64
  have hjn : j * nn <= 2 * nn := Nat.mul_le_mul_right _ (by omega)
  have l0 : j = 0 -> o0.length = nn := fun _ => hl.1
  have l1 : j = 1 -> o1.length = nn := fun e => hl.2.1 (by omega)
  have l2 : j = 2 -> o2.length = nn := fun e => hl.2.2 (by omega)
  have hoG := fun v w hw => zwe (v := v) hi hj l0 l1 l2 w hw
  obtain ⟨c1, c2⟩ := cell (j := j) hi
  have hvar : varC rows nn (j * nn + i) = if rows.length <= i then -1 else rw3 (rows.getD i zrow) j := by unfold varC; rw [c1, c2]
  by_cases hs : rows.length <= i \/ rw3 (rows.getD i zrow) j < 0
  . have hneg : varC rows nn (j * nn + i) < 0 := by
      rw [hvar]
      split
      . omega
      . rcases hs with hs | hs
        . contradiction
        . exact hs
    have hk : kC cl rows nn (j * nn + i) < 0 := by unfold kC; rw [if_pos hneg]; omega
    refine ⟨fi, la, up 0 j i ((j * nn + i : Nat) : Int) o0, up 1 j i ((j * nn + i : Nat) : Int) o1, up 2 j i ((j * nn + i : Nat) : Int) o2, ?_, hl.up _ _ _, zth h hk (fun w hw => ?_) ?_⟩
    . obtain rfl | rfl | rfl : j = 0 \/ j = 1 \/ j = 2 := by omega
      . exact zza A t54 c0 v1 rows S cl fi la x y z o0 o1 o2 hb hi (l0 rfl) hs
      . exact zzb A t54 c0 v1 rows S cl fi la x y z o0 o1 o2 hb hi (l1 rfl) hs
      . exact zzc A t54 c0 v1 rows S cl fi la x y z o0 o1 o2 hb hi (l2 rfl) hs
    . rw [hoG _ w (by omega), if_neg (by omega)]
    . rw [hoG _ _ (by omega), if_pos rfl]
  . have hr : i < rows.length := by omega
    have hnn : ¬ rw3 (rows.getD i zrow) j < 0 := fun e => hs (.inr e)
    obtain ⟨v, hv⟩ : ∃ v : Nat, rw3 (rows.getD i zrow) j = (v : Int) := ⟨(rw3 (rows.getD i zrow) j).toNat, by omega⟩
    have hvV : v < V := by have := (G.vars _ (zuc hr) j).2; omega
    obtain ⟨c, hc, hcl⟩ := G.cc v hvV
    have hk : kC cl rows nn (j * nn + i) = (c : Int) := by
      unfold kC
      rw [hvar, if_neg (by omega : ¬ rows.length <= i), hv, if_neg (by omega), Int.toNat_natCast, hcl]
    by_cases hf : fi.getD c 0 < 0
    . refine ⟨setL fi c ((j * nn + i : Nat) : Int), setL la c ((j * nn + i : Nat) : Int), up 0 j i ((j * nn + i : Nat) : Int) o0, up 1 j i ((j * nn + i : Nat) : Int) o1, up 2 j i ((j * nn + i : Nat) : Int) o2, ?_, hl.up _ _ _, zwf h hc hk hf (fun w hw => ?_) ?_⟩
      . obtain rfl | rfl | rfl : j = 0 \/ j = 1 \/ j = 2 := by omega
        . exact zA8 A t54 c0 v1 rows S cl fi la x y z o0 o1 o2 hb hi (l0 rfl) hr hv hvV hc G.lc h.lf h.ll hcl hf
        . exact zA9 A t54 c0 v1 rows S cl fi la x y z o0 o1 o2 hb hi (l1 rfl) hr hv hvV hc G.lc h.lf h.ll hcl hf
        . exact zBa A t54 c0 v1 rows S cl fi la x y z o0 o1 o2 hb hi (l2 rfl) hr hv hvV hc G.lc h.lf h.ll hcl hf
      . rw [hoG _ w (by omega), if_neg (by omega)]
      . rw [hoG _ _ (by omega), if_pos rfl]
    . obtain ⟨g, hg, hga⟩ : ∃ g : Nat, la.getD c 0 = (g : Int) /\ g < j * nn + i := by
        rcases h.F c hc with ⟨e, _⟩ | ⟨f, g, e1, e2, _, e3, _⟩
        . omega
        . exact ⟨g, e2, e3⟩
      have hqn : g / nn < j + 1 := Nat.div_lt_of_lt_mul (by rw [Nat.mul_comm, Nat.succ_mul]; omega)
      have hm : g % nn < nn := Nat.mod_lt _ (by omega)
      have hgc : g / nn * nn + g % nn = g := by rw [Nat.mul_comm]; exact Nat.div_add_mod g nn
      have L1 := hl.up j i ((j * nn + i : Nat) : Int)
      have L2 := L1.up (g / nn) (g % nn) ((j * nn + i : Nat) : Int)
      have hO2 := fun w hw => zwe (v := ((j * nn + i : Nat) : Int)) (j := g / nn) hm (by omega) (fun _ => L1.1) (fun e => L1.2.1 (by omega)) (fun e => L1.2.2 (by omega)) w hw
      have hO3 := fun w hw => zwe (v := fi.getD c 0) hi hj (fun _ => L2.1) (fun e => L2.2.1 (by omega)) (fun e => L2.2.2 (by omega)) w hw
      refine ⟨fi, setL la c ((j * nn + i : Nat) : Int), _, _, _, ?_, L2.up j i (fi.getD c 0), zti h hc hk hf hg (fun w hw hwg => ?_) ?_ ?_⟩
      . obtain ⟨q, hq⟩ : ∃ q, g / nn = q := ⟨_, rfl⟩
        rw [hq] at hqn
        rw [hq]
        obtain rfl | rfl | rfl : j = 0 \/ j = 1 \/ j = 2 := by omega
        . obtain rfl : q = 0 := by omega
          exact ztj A t54 c0 v1 rows S cl fi la x y z o0 o1 o2 hb hi (l0 rfl) hr hv hvV hc G.lc h.lf h.ll hcl hf hg hq (by omega)
        . obtain rfl | rfl : q = 0 \/ q = 1 := by omega
          . exact ztk A t54 c0 v1 rows S cl fi la x y z o0 o1 o2 hb hi (l1 rfl) hl.1 hr hv hvV hc G.lc h.lf h.ll hcl hf hg hq (by omega)
          . exact ztl A t54 c0 v1 rows S cl fi la x y z o0 o1 o2 hb hi (l1 rfl) hr hv hvV hc G.lc h.lf h.ll hcl hf hg hq (by omega)
        . obtain rfl | rfl | rfl : q = 0 \/ q = 1 \/ q = 2 := by omega
          . exact ztm A t54 c0 v1 rows S cl fi la x y z o0 o1 o2 hb hi (l2 rfl) hl.1 hr hv hvV hc G.lc h.lf h.ll hcl hf hg hq (by omega)
          . exact ztn A t54 c0 v1 rows S cl fi la x y z o0 o1 o2 hb hi (l2 rfl) (hl.2.1 (by omega)) hr hv hvV hc G.lc h.lf h.ll hcl hf hg hq (by omega)
          . exact zto A t54 c0 v1 rows S cl fi la x y z o0 o1 o2 hb hi (l2 rfl) hr hv hvV hc G.lc h.lf h.ll hcl hf hg hq (by omega)
      . rw [hO3 w (by omega), if_neg (by omega), hO2 w (by omega), if_neg (by omega), hoG _ w (by omega), if_neg (by omega)]
      . rw [hO3 g (by omega), if_neg (by omega), hO2 g (by omega), if_pos hgc.symm]
      . rw [hO3 _ (by omega), if_pos rfl]
theorem zeC {N nn j V : Nat} {A : Int -> Int -> Int -> Int -> (List Row) -> (List Pr) -> (List Int) -> (List Int) -> (List Int) -> (List Int) -> (List Int) -> (List Int) -> (List Int) -> (List Int) -> (List Int) -> Option ((List Int × List Int × List Int × Unit) × Int × Unit)} {c0 v1 : Int} {rows : List Row} {S : List Pr} {cl x y z : List Int}
    (G : Ground cl rows nn V) (hj : j < 3) : ∀ (k i f : Nat) (fi la o0 o1 o2 : List Int), i + k = nn -> k < f -> Len3 nn j o0 o1 o2 -> PInv (kC cl rows nn) V nn (j * nn + i) fi la (oG nn o0 o1 o2) ->
    ∃ fi' la' p0 p1 p2, zaA N A f (nn : Int) (j : Int) (j : Int) (nn : Int) (i : Int) c0 v1 rows S cl fi la x y z o0 o1 o2 = A (nn : Int) ((j + 1 : Nat) : Int) c0 v1 rows S cl fi' la' x y z p0 p1 p2 /\
      Len3 nn j p0 p1 p2 /\ PInv (kC cl rows nn) V nn ((j + 1) * nn) fi' la' (oG nn p0 p1 p2)
  | 0, i, f + 1, fi, la, o0, o1, o2, hk, hf, hl, h => by
    obtain rfl : i = nn := by omega
    refine ⟨fi, la, o0, o1, o2, ?_, hl, ?_⟩
    . rw [zaJ]
      unfold zbe
      rw [zab (by omega), cond_false, zap (by omega)]
    . rw [Nat.succ_mul]; exact h
  | k + 1, i, f + 1, fi, la, o0, o1, o2, hk, hf, hl, h => by
    obtain ⟨fi1, la1, p0, p1, p2, e1, l1, h1⟩ := zrg (N := N) (f := f) (A := A) (t54 := (j : Int)) (c0 := c0) (v1 := v1) (S := S) (x := x) (y := y) (z := z) G hj (by omega : i < nn) hl h
    obtain ⟨fi2, la2, r0, r1, r2, e2, l2, h2⟩ := zeC (N := N) (A := A) (c0 := c0) (v1 := v1) (S := S) (x := x) (y := y) (z := z) G hj k (i + 1) f fi1 la1 p0 p1 p2 (by omega) (by omega) l1 (by rw [← Nat.add_assoc]; exact h1)
    exact ⟨fi2, la2, r0, r1, r2, e1.trans e2, l2, h2⟩
theorem ze3 (n : Nat) : (List.replicate n (0 : Int)).length = n := List.length_replicate
theorem ziY {k : Nat -> Int} {V n a : Nat} {fi la : List Int} {O O' : Nat -> Int} (h : PInv k V n a fi la O) (e : ∀ z, z < a -> O' z = O z) : PInv k V n a fi la O' :=
  ⟨h.lf, h.ll, h.F, fun z hz => by rw [e z hz]; exact h.O z hz⟩
theorem mk3 (n : Nat) (h64 : n <= 64) : (leI 0 (n : Int) && (eqI (n : Int) (n : Int) && leN (Int.toNat (n : Int) * 8) 140737488355328)) = true := by
  rw [zae, zaN rfl, Int.toNat_natCast, zaI (by omega)]; rfl
theorem zlJ {N nn V : Nat} {c0 v1 : Int} {rows : List Row} {S : List Pr} {cl x y z fi la : List Int} (hN : 2000 <= N)
    (G : Ground cl rows nn V) (h0 : PInv (kC cl rows nn) V nn 0 fi la (fun _ => 0)) (f : Nat) :
    ∃ p0 p1 p2, zbf N (f + 4) (nn : Int) 0 c0 v1 rows S cl fi la x y z [] [] [] = some ((p0, p1, p2, ()), 0, ()) /\ Len3 nn 2 p0 p1 p2 /\
      ∀ w, w < 3 * nn -> ∃ u : Nat, oG nn p0 p1 p2 w = (u : Int) /\ zcZ (kC cl rows nn) (3 * nn) w u := by
  have hb := G.n64
  have hn := G.n1
  have e0 : PInv (kC cl rows nn) V nn (0 * nn + 0) fi la (oG nn (List.replicate nn 0) [] []) := by
    rw [Nat.zero_mul, Nat.add_zero]; exact ziY h0 (fun w hw => absurd hw (by omega))
  obtain ⟨fi1, la1, a0, a1, a2, r1, l1, h1⟩ := zeC (N := N) (A := zbf N (f + 3)) (c0 := c0) (v1 := v1) (S := S) (x := x) (y := y) (z := z) G (by omega : 0 < 3) nn 0 N fi la (List.replicate nn 0) [] [] (by omega) (by omega) ⟨ze3 nn, fun h => by omega, fun h => by omega⟩ e0
  have e1 : PInv (kC cl rows nn) V nn (1 * nn + 0) fi1 la1 (oG nn a0 (List.replicate nn 0) a2) := by
    rw [Nat.add_zero]
    refine ziY h1 fun w hw => ?_
    have : w / nn = 0 := Nat.div_eq_of_lt (by omega)
    unfold oG
    rw [if_pos this, if_pos this]
  obtain ⟨fi2, la2, b0, b1, b2, r2, l2, h2⟩ := zeC (N := N) (A := zbf N (f + 2)) (c0 := c0) (v1 := v1) (S := S) (x := x) (y := y) (z := z) G (by omega : 1 < 3) nn 0 N fi1 la1 a0 (List.replicate nn 0) a2 (by omega) (by omega) ⟨l1.1, fun h => ze3 nn, fun h => by omega⟩ e1
  have e2 : PInv (kC cl rows nn) V nn (2 * nn + 0) fi2 la2 (oG nn b0 b1 (List.replicate nn 0)) := by
    rw [Nat.add_zero]
    refine ziY h2 fun w hw => ?_
    have : w / nn < 2 := Nat.div_lt_of_lt_mul (by omega)
    unfold oG
    by_cases c : w / nn = 0
    . rw [if_pos c, if_pos c]
    . have q2 : ∀ q : Nat, q < 2 -> q ≠ 0 -> q = 1 := by omega
      have c1 := q2 _ this c
      rw [if_neg c, if_neg c, if_pos c1, if_pos c1]
  obtain ⟨fi3, la3, d0, d1, d2, r3, l3, h3⟩ := zeC (N := N) (A := zbf N (f + 1)) (c0 := c0) (v1 := v1) (S := S) (x := x) (y := y) (z := z) G (by omega : 2 < 3) nn 0 N fi2 la2 b0 b1 (List.replicate nn 0) (by omega) (by omega) ⟨l2.1, fun h => l2.2.1 (by omega), fun h => ze3 nn⟩ e2
  refine ⟨d0, d1, d2, ?_, l3, fun w hw => zwg h3 hw⟩
  have s1 : zbf N (f + 4) (nn : Int) 0 c0 v1 rows S cl fi la x y z [] [] [] = zaA N (zbf N (f + 3)) N (nn : Int) ((0 : Nat) : Int) ((0 : Nat) : Int) (nn : Int) ((0 : Nat) : Int) c0 v1 rows S cl fi la x y z (List.replicate nn 0) [] [] := by
    rw [zch]
    unfold zdm
    rw [zaa (by omega : (0 : Int) < 3), cond_true, mk3 nn hb, mst2]
    rfl
  have s2 : zbf N (f + 3) (nn : Int) ((0 + 1 : Nat) : Int) c0 v1 rows S cl fi1 la1 x y z a0 a1 a2 = zaA N (zbf N (f + 2)) N (nn : Int) ((1 : Nat) : Int) ((1 : Nat) : Int) (nn : Int) ((0 : Nat) : Int) c0 v1 rows S cl fi1 la1 x y z a0 (List.replicate nn 0) a2 := by
    rw [zch]
    unfold zdm
    rw [zaa (by omega : ((0 + 1 : Nat) : Int) < 3), cond_true, mk3 nn hb, mst2]
    rfl
  have s3 : zbf N (f + 2) (nn : Int) ((1 + 1 : Nat) : Int) c0 v1 rows S cl fi2 la2 x y z b0 b1 b2 = zaA N (zbf N (f + 1)) N (nn : Int) ((2 : Nat) : Int) ((2 : Nat) : Int) (nn : Int) ((0 : Nat) : Int) c0 v1 rows S cl fi2 la2 x y z b0 b1 (List.replicate nn 0) := by
    rw [zch]
    unfold zdm
    rw [zaa (by omega : ((1 + 1 : Nat) : Int) < 3), cond_true, mk3 nn hb, mst2]
    rfl
  have s4 : zbf N (f + 1) (nn : Int) ((2 + 1 : Nat) : Int) c0 v1 rows S cl fi3 la3 x y z d0 d1 d2 = some ((d0, d1, d2, ()), 0, ()) := by
    rw [zch]
    unfold zdm
    rw [zab (by omega), cond_false]
  rw [s1, r1, s2, r2, s3, r3, s4]
theorem zjV {N V : Nat} {n6 c0 v1 : Int} {rows : List Row} {S : List Pr} {cl la x y z o0 o1 o2 : List Int} (hV : V < 1000000) :
    ∀ (k t f : Nat) (fi : List Int), fi.length = V -> (∀ i : Nat, i < t -> fi.getD i 0 = -1) -> t + k = V -> k < f ->
    ∃ fi', zh3 N f n6 (V : Int) (t : Int) c0 v1 rows S cl fi la x y z o0 o1 o2 = zbf N N n6 0 c0 v1 rows S cl fi' la x y z o0 o1 o2 /\ fi'.length = V /\ ∀ i : Nat, i < V -> fi'.getD i 0 = -1
  | 0, t, f + 1, fi, hl, h, ht, hf => by
    refine ⟨fi, ?_, hl, fun i hi => h i (by omega)⟩
    rw [zgP]
    unfold zh2
    rw [zab (by omega), cond_false]
  | k + 1, t, f + 1, fi, hl, h, ht, hf => by
    rw [zgP]
    unfold zh2
    rw [zaa (by omega : (t : Int) < (V : Int)), cond_true, zae, hl, zaa (by omega : (t : Int) < (V : Int)), zap (by omega), Int.toNat_natCast]
    simp only [Bool.and_self, mst2]
    refine zjV hV k (t + 1) f _ (by rw [zaz]; exact hl) (fun i hi => ?_) (by omega) (by omega)
    rw [zaR]
    by_cases e : i = t
    . rw [if_pos ⟨e, by rw [hl]; omega⟩]
    . rw [if_neg (fun hc => e hc.1)]; exact h i (by omega)
end
section
theorem zmH {q : Nat} (h : q < 9223372036854775807) : wr (q : Int) = (q : Int) := zaX (by omega) (by omega)
def ap (m q : Nat) (y : Int) (o : List Int) : List Int := if q = m then o ++ [y] else o
def LenP (n x : Nat) (o0 o1 o2 : List Int) : Prop := o0.length = min x n /\ o1.length = min (x - n) n /\ o2.length = x - 2 * n
theorem LenP.ap {n x : Nat} {y : Int} {o0 o1 o2 : List Int} (h : LenP n x o0 o1 o2) (hx : x < 3 * n) : LenP n (x + 1) (ap 0 (x / n) y o0) (ap 1 (x / n) y o1) (ap 2 (x / n) y o2) := by
  obtain ⟨h0, h1, h2⟩ := h
  have hd := Nat.div_add_mod x n
  have hm : x % n < n := Nat.mod_lt _ (by omega)
  have hq : x / n < 3 := Nat.div_lt_of_lt_mul (by omega)
  obtain ⟨q, hqq⟩ : ∃ q, x / n = q := ⟨_, rfl⟩
  rw [hqq] at hq hd
  rw [hqq]
  obtain rfl | rfl | rfl : q = 0 \/ q = 1 \/ q = 2 := by omega
  . refine ⟨?_, ?_, ?_⟩
    . show (o0 ++ [y]).length = _
      rw [List.length_append, List.length_singleton, h0]; omega
    . show o1.length = _
      rw [h1]; omega
    . show o2.length = _
      rw [h2]; omega
  . refine ⟨?_, ?_, ?_⟩
    . show o0.length = _
      rw [h0]; omega
    . show (o1 ++ [y]).length = _
      rw [List.length_append, List.length_singleton, h1]; omega
    . show o2.length = _
      rw [h2]; omega
  . refine ⟨?_, ?_, ?_⟩
    . show o0.length = _
      rw [h0]; omega
    . show o1.length = _
      rw [h1]; omega
    . show (o2 ++ [y]).length = _
      rw [List.length_append, List.length_singleton, h2]; omega
theorem zrh {cl : List Int} {rows : List Row} {n z : Nat} (h : varC rows n z < 0) : kC cl rows n z = -1 := by unfold kC; rw [if_pos h]
theorem zgV {cl : List Int} {rows : List Row} {n z : Nat} (h : ¬ varC rows n z < 0) : kC cl rows n z = cl.getD (varC rows n z).toNat 0 := by unfold kC; rw [if_neg h]
end
section
theorem zjW {c0 : Int} {V L : Nat} {rows : List Row} {S : List Pr} {cl : List Int} (hg : GoodCirc c0 (V : Int) rows S) (hc : GoodC S V cl) (h6 : L <= 6) (hr : rows.length <= 2 ^ L) : Ground cl rows (2 ^ L) V :=
  ⟨zcX L, zdy h6, hr, hc.len, fun v hv => ⟨(cl.getD v 0).toNat, by have := hc.nn v hv; have := hc.le v hv; omega, by have := hc.nn v hv; omega⟩, fun r hr j => hg.vars hr j⟩
theorem zBb : q134 100000 0 2 [bRow] [Pr.mk 1 0] = some ([0, 0], ()) := by kernel_rfl
theorem zBc : q131 100000 0 2 [bRow] [Pr.mk 1 0] 1 = some (([4, 1], [2, 3], [0, 5], ()), 0, ()) := by kernel_rfl
instance : Big 100000 := ⟨by omega⟩
theorem zwh : q128 100000 = some (true, ()) := by
  have h : q136 100000 1 0 = some (nm 1 0, 0, ()) := zv3 (L := 1) (x := 0) (by omega) (by omega) (by omega)
  unfold q128
  refine (congrArg (fun o => Option.bind o _) zBb).trans ?_
  simp only [bsm]
  refine (congrArg (fun o => Option.bind o _) zBc).trans ?_
  simp only [bsm]
  rw [h, nm10]
  simp only [bsm]
  rfl
end
end Go.Proofs.Ytgimohchocjgcaa.V
