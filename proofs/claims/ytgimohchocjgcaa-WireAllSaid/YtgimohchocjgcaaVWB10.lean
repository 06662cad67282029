import Derived.Test.YtgimohchocjgcaaVWB9
import Derived.KernelRfl
set_option linter.unusedVariables false
set_option linter.unusedSimpArgs false
namespace Go.Proofs.Ytgimohchocjgcaa.V
theorem skip_0 {N f nn i : Nat} (A : Int → Int → Int → Int → (List Row) → (List Pr) → (List Int) → (List Int) → (List Int) → (List Int) → (List Int) → (List Int) → (List Int) → (List Int) → (List Int) → Option ((List Int × List Int × List Int × Unit) × Int × Unit)) (t54 c0 v1 : Int) (rows : List Row) (S : List Pr) (cl fi la x y z o0 o1 o2 : List Int) (hb : nn ≤ 64) (hi : i < nn) (ho : o0.length = nn) (hs : rows.length ≤ i ∨ Row.w0 (rows.getD i zrow) < 0) :
    m131_17 N A (f + 1) (nn : Int) ((0 : Nat) : Int) t54 (nn : Int) (i : Int) c0 v1 rows S cl fi la x y z o0 o1 o2 = m131_17 N A f (nn : Int) ((0 : Nat) : Int) t54 (nn : Int) ((i + 1 : Nat) : Int) c0 v1 rows S cl fi la x y z (up 0 0 i ((0 * nn + i : Nat) : Int) o0) (up 1 0 i ((0 * nn + i : Nat) : Int) o1) (up 2 0 i ((0 * nn + i : Nat) : Int) o2) := by
  have hat : wr (wr (((0 : Nat) : Int) * (nn : Int)) + (i : Int)) = ((0 * nn + i : Nat) : Int) := by rw [show wr (((0 : Nat) : Int) * (nn : Int)) = ((0 : Nat) : Int) * (nn : Int) from wr_id (by omega) (by omega), wr_id (by omega) (by omega)]; omega
  have e0 : eqI ((0 : Nat) : Int) ((0 : Nat) : Int) = true := rfl
  have a1 : ltI (i : Int) (nn : Int) = true := ltI_true (by omega)
  have a2 : leI 0 (i : Int) = true := leI_zero _
  have a3 : wr ((i : Int) + 1) = ((i + 1 : Nat) : Int) := wr_add1 (by omega)
  rw [m131_17_succ]
  unfold c131_17
  by_cases hr : rows.length ≤ i
  · have a4 : leI (rows.length : Int) (i : Int) = true := leI_true (by omega)
    simp only [a1, a2, a3, a4, e0, hat, ho, cond_true, cond_false, Bool.and_self, mst2, Int.toNat_natCast]
    rfl
  · have a4 : leI (rows.length : Int) (i : Int) = false := leI_false (by omega)
    have a5 : ltI (i : Int) (rows.length : Int) = true := ltI_true (by omega)
    have a6 : ltI (Row.w0 (rows.getD i zrow)) 0 = true := ltI_true (by omega)
    simp only [a1, a2, a3, a4, a5, a6, e0, hat, ho, cond_true, cond_false, Bool.and_self, mst2, Int.toNat_natCast]
    rfl
theorem new_0 {N f nn i : Nat} (A : Int → Int → Int → Int → (List Row) → (List Pr) → (List Int) → (List Int) → (List Int) → (List Int) → (List Int) → (List Int) → (List Int) → (List Int) → (List Int) → Option ((List Int × List Int × List Int × Unit) × Int × Unit)) (t54 c0 v1 : Int) (rows : List Row) (S : List Pr) (cl fi la x y z o0 o1 o2 : List Int) (hb : nn ≤ 64) (hi : i < nn) (ho : o0.length = nn) (hr : i < rows.length) {v c V : Nat} (hw : Row.w0 (rows.getD i zrow) = (v : Int)) (hv : v < V) (hc : c < V) (hcl : cl.length = V) (hfi : fi.length = V) (hla : la.length = V) (hk : cl.getD v 0 = (c : Int)) (hn : fi.getD c 0 < 0) :
    m131_17 N A (f + 1) (nn : Int) ((0 : Nat) : Int) t54 (nn : Int) (i : Int) c0 v1 rows S cl fi la x y z o0 o1 o2 = m131_17 N A f (nn : Int) ((0 : Nat) : Int) t54 (nn : Int) ((i + 1 : Nat) : Int) c0 v1 rows S cl (setL fi c ((0 * nn + i : Nat) : Int)) (setL la c ((0 * nn + i : Nat) : Int)) x y z (up 0 0 i ((0 * nn + i : Nat) : Int) o0) (up 1 0 i ((0 * nn + i : Nat) : Int) o1) (up 2 0 i ((0 * nn + i : Nat) : Int) o2) := by
  have hat : wr (wr (((0 : Nat) : Int) * (nn : Int)) + (i : Int)) = ((0 * nn + i : Nat) : Int) := by rw [show wr (((0 : Nat) : Int) * (nn : Int)) = ((0 : Nat) : Int) * (nn : Int) from wr_id (by omega) (by omega), wr_id (by omega) (by omega)]; omega
  have e0 : eqI ((0 : Nat) : Int) ((0 : Nat) : Int) = true := rfl
  have a1 : ltI (i : Int) (nn : Int) = true := ltI_true (by omega)
  have a2 : leI 0 (i : Int) = true := leI_zero _
  have a3 : wr ((i : Int) + 1) = ((i + 1 : Nat) : Int) := wr_add1 (by omega)
  have a4 : leI (rows.length : Int) (i : Int) = false := leI_false (by omega)
  have a5 : ltI (i : Int) (rows.length : Int) = true := ltI_true (by omega)
  have a6 : ltI (v : Int) 0 = false := ltI_false (by omega)
  have a7 : leI 0 (v : Int) = true := leI_zero _
  have a8 : ltI (v : Int) (V : Int) = true := ltI_true (by omega)
  have a9 : leI 0 (c : Int) = true := leI_zero _
  have a10 : ltI (c : Int) (V : Int) = true := ltI_true (by omega)
  have a11 : ltI (fi.getD c 0) 0 = true := ltI_true hn
  rw [m131_17_succ]
  unfold c131_17
  simp only [a11, a1, a2, a3, a4, a5, a6, a7, a8, a9, a10, e0, hat, ho, hw, hk, hcl, hfi, hla, cond_true, cond_false, Bool.and_self, mst2, Int.toNat_natCast]
  rfl
theorem more_0_0 {N f nn i : Nat} (A : Int → Int → Int → Int → (List Row) → (List Pr) → (List Int) → (List Int) → (List Int) → (List Int) → (List Int) → (List Int) → (List Int) → (List Int) → (List Int) → Option ((List Int × List Int × List Int × Unit) × Int × Unit)) (t54 c0 v1 : Int) (rows : List Row) (S : List Pr) (cl fi la x y z o0 o1 o2 : List Int) (hb : nn ≤ 64) (hi : i < nn) (ho : o0.length = nn) (hr : i < rows.length) {v c V : Nat} (hw : Row.w0 (rows.getD i zrow) = (v : Int)) (hv : v < V) (hc : c < V) (hcl : cl.length = V) (hfi : fi.length = V) (hla : la.length = V) (hk : cl.getD v 0 = (c : Int)) (hn : ¬ fi.getD c 0 < 0) {g : Nat} (hg : la.getD c 0 = (g : Int)) (hq : g / nn = 0) (hg9 : g < 1000000) :
    m131_17 N A (f + 1) (nn : Int) ((0 : Nat) : Int) t54 (nn : Int) (i : Int) c0 v1 rows S cl fi la x y z o0 o1 o2 = m131_17 N A f (nn : Int) ((0 : Nat) : Int) t54 (nn : Int) ((i + 1 : Nat) : Int) c0 v1 rows S cl fi (setL la c ((0 * nn + i : Nat) : Int)) x y z (up 0 0 i (fi.getD c 0) (up 0 0 (g % nn) ((0 * nn + i : Nat) : Int) (up 0 0 i ((0 * nn + i : Nat) : Int) o0))) (up 1 0 i (fi.getD c 0) (up 1 0 (g % nn) ((0 * nn + i : Nat) : Int) (up 1 0 i ((0 * nn + i : Nat) : Int) o1))) (up 2 0 i (fi.getD c 0) (up 2 0 (g % nn) ((0 * nn + i : Nat) : Int) (up 2 0 i ((0 * nn + i : Nat) : Int) o2))) := by
  have hat : wr (wr (((0 : Nat) : Int) * (nn : Int)) + (i : Int)) = ((0 * nn + i : Nat) : Int) := by rw [show wr (((0 : Nat) : Int) * (nn : Int)) = ((0 : Nat) : Int) * (nn : Int) from wr_id (by omega) (by omega), wr_id (by omega) (by omega)]; omega
  have e0 : eqI ((0 : Nat) : Int) ((0 : Nat) : Int) = true := rfl
  have a1 : ltI (i : Int) (nn : Int) = true := ltI_true (by omega)
  have a2 : leI 0 (i : Int) = true := leI_zero _
  have a3 : wr ((i : Int) + 1) = ((i + 1 : Nat) : Int) := wr_add1 (by omega)
  have a4 : leI (rows.length : Int) (i : Int) = false := leI_false (by omega)
  have a5 : ltI (i : Int) (rows.length : Int) = true := ltI_true (by omega)
  have a6 : ltI (v : Int) 0 = false := ltI_false (by omega)
  have a7 : leI 0 (v : Int) = true := leI_zero _
  have a8 : ltI (v : Int) (V : Int) = true := ltI_true (by omega)
  have a9 : leI 0 (c : Int) = true := leI_zero _
  have a10 : ltI (c : Int) (V : Int) = true := ltI_true (by omega)
  have q0 : eqI ((0 : Nat) : Int) ((0 : Nat) : Int) = true := rfl
  have a11 : ltI (fi.getD c 0) 0 = false := ltI_false hn
  have a12 : wr (Int.tdiv (g : Int) (nn : Int)) = ((0 : Nat) : Int) := by rw [tdiv_nat, wr_id (by omega) (by omega), hq]
  have a13 : Int.tmod (g : Int) (nn : Int) = ((g % nn : Nat) : Int) := rfl
  have a14 : eqI (nn : Int) 0 = false := eqI_false (by omega)
  have a15 : leI 0 ((g % nn : Nat) : Int) = true := leI_zero _
  have a16 : ltI ((g % nn : Nat) : Int) (nn : Int) = true := ltI_true (by have := Nat.mod_lt g (show 0 < nn by omega); omega)
  rw [m131_17_succ]
  unfold c131_17
  simp only [a11, a12, a13, a14, a15, a16, hg, q0, setL_length, Bool.not_false, a1, a2, a3, a4, a5, a6, a7, a8, a9, a10, e0, hat, ho, hw, hk, hcl, hfi, hla, cond_true, cond_false, Bool.and_self, mst2, Int.toNat_natCast]
  rfl
theorem skip_1 {N f nn i : Nat} (A : Int → Int → Int → Int → (List Row) → (List Pr) → (List Int) → (List Int) → (List Int) → (List Int) → (List Int) → (List Int) → (List Int) → (List Int) → (List Int) → Option ((List Int × List Int × List Int × Unit) × Int × Unit)) (t54 c0 v1 : Int) (rows : List Row) (S : List Pr) (cl fi la x y z o0 o1 o2 : List Int) (hb : nn ≤ 64) (hi : i < nn) (ho : o1.length = nn) (hs : rows.length ≤ i ∨ Row.w1 (rows.getD i zrow) < 0) :
    m131_17 N A (f + 1) (nn : Int) ((1 : Nat) : Int) t54 (nn : Int) (i : Int) c0 v1 rows S cl fi la x y z o0 o1 o2 = m131_17 N A f (nn : Int) ((1 : Nat) : Int) t54 (nn : Int) ((i + 1 : Nat) : Int) c0 v1 rows S cl fi la x y z (up 0 1 i ((1 * nn + i : Nat) : Int) o0) (up 1 1 i ((1 * nn + i : Nat) : Int) o1) (up 2 1 i ((1 * nn + i : Nat) : Int) o2) := by
  have hat : wr (wr (((1 : Nat) : Int) * (nn : Int)) + (i : Int)) = ((1 * nn + i : Nat) : Int) := by rw [show wr (((1 : Nat) : Int) * (nn : Int)) = ((1 : Nat) : Int) * (nn : Int) from wr_id (by omega) (by omega), wr_id (by omega) (by omega)]; omega
  have e0 : eqI ((1 : Nat) : Int) ((0 : Nat) : Int) = false := rfl
  have e1 : eqI ((1 : Nat) : Int) (((0 : Nat) + (1 : Nat) : Nat) : Int) = true := rfl
  have a1 : ltI (i : Int) (nn : Int) = true := ltI_true (by omega)
  have a2 : leI 0 (i : Int) = true := leI_zero _
  have a3 : wr ((i : Int) + 1) = ((i + 1 : Nat) : Int) := wr_add1 (by omega)
  rw [m131_17_succ]
  unfold c131_17
  by_cases hr : rows.length ≤ i
  · have a4 : leI (rows.length : Int) (i : Int) = true := leI_true (by omega)
    simp only [a1, a2, a3, a4, e0, e1, hat, ho, cond_true, cond_false, Bool.and_self, mst2, Int.toNat_natCast]
    rfl
  · have a4 : leI (rows.length : Int) (i : Int) = false := leI_false (by omega)
    have a5 : ltI (i : Int) (rows.length : Int) = true := ltI_true (by omega)
    have a6 : ltI (Row.w1 (rows.getD i zrow)) 0 = true := ltI_true (by omega)
    simp only [a1, a2, a3, a4, a5, a6, e0, e1, hat, ho, cond_true, cond_false, Bool.and_self, mst2, Int.toNat_natCast]
    rfl
theorem new_1 {N f nn i : Nat} (A : Int → Int → Int → Int → (List Row) → (List Pr) → (List Int) → (List Int) → (List Int) → (List Int) → (List Int) → (List Int) → (List Int) → (List Int) → (List Int) → Option ((List Int × List Int × List Int × Unit) × Int × Unit)) (t54 c0 v1 : Int) (rows : List Row) (S : List Pr) (cl fi la x y z o0 o1 o2 : List Int) (hb : nn ≤ 64) (hi : i < nn) (ho : o1.length = nn) (hr : i < rows.length) {v c V : Nat} (hw : Row.w1 (rows.getD i zrow) = (v : Int)) (hv : v < V) (hc : c < V) (hcl : cl.length = V) (hfi : fi.length = V) (hla : la.length = V) (hk : cl.getD v 0 = (c : Int)) (hn : fi.getD c 0 < 0) :
    m131_17 N A (f + 1) (nn : Int) ((1 : Nat) : Int) t54 (nn : Int) (i : Int) c0 v1 rows S cl fi la x y z o0 o1 o2 = m131_17 N A f (nn : Int) ((1 : Nat) : Int) t54 (nn : Int) ((i + 1 : Nat) : Int) c0 v1 rows S cl (setL fi c ((1 * nn + i : Nat) : Int)) (setL la c ((1 * nn + i : Nat) : Int)) x y z (up 0 1 i ((1 * nn + i : Nat) : Int) o0) (up 1 1 i ((1 * nn + i : Nat) : Int) o1) (up 2 1 i ((1 * nn + i : Nat) : Int) o2) := by
  have hat : wr (wr (((1 : Nat) : Int) * (nn : Int)) + (i : Int)) = ((1 * nn + i : Nat) : Int) := by rw [show wr (((1 : Nat) : Int) * (nn : Int)) = ((1 : Nat) : Int) * (nn : Int) from wr_id (by omega) (by omega), wr_id (by omega) (by omega)]; omega
  have e0 : eqI ((1 : Nat) : Int) ((0 : Nat) : Int) = false := rfl
  have e1 : eqI ((1 : Nat) : Int) (((0 : Nat) + (1 : Nat) : Nat) : Int) = true := rfl
  have a1 : ltI (i : Int) (nn : Int) = true := ltI_true (by omega)
  have a2 : leI 0 (i : Int) = true := leI_zero _
  have a3 : wr ((i : Int) + 1) = ((i + 1 : Nat) : Int) := wr_add1 (by omega)
  have a4 : leI (rows.length : Int) (i : Int) = false := leI_false (by omega)
  have a5 : ltI (i : Int) (rows.length : Int) = true := ltI_true (by omega)
  have a6 : ltI (v : Int) 0 = false := ltI_false (by omega)
  have a7 : leI 0 (v : Int) = true := leI_zero _
  have a8 : ltI (v : Int) (V : Int) = true := ltI_true (by omega)
  have a9 : leI 0 (c : Int) = true := leI_zero _
  have a10 : ltI (c : Int) (V : Int) = true := ltI_true (by omega)
  have a11 : ltI (fi.getD c 0) 0 = true := ltI_true hn
  rw [m131_17_succ]
  unfold c131_17
  simp only [a11, a1, a2, a3, a4, a5, a6, a7, a8, a9, a10, e0, e1, hat, ho, hw, hk, hcl, hfi, hla, cond_true, cond_false, Bool.and_self, mst2, Int.toNat_natCast]
  rfl
theorem more_1_0 {N f nn i : Nat} (A : Int → Int → Int → Int → (List Row) → (List Pr) → (List Int) → (List Int) → (List Int) → (List Int) → (List Int) → (List Int) → (List Int) → (List Int) → (List Int) → Option ((List Int × List Int × List Int × Unit) × Int × Unit)) (t54 c0 v1 : Int) (rows : List Row) (S : List Pr) (cl fi la x y z o0 o1 o2 : List Int) (hb : nn ≤ 64) (hi : i < nn) (ho : o1.length = nn) (hoq : o0.length = nn) (hr : i < rows.length) {v c V : Nat} (hw : Row.w1 (rows.getD i zrow) = (v : Int)) (hv : v < V) (hc : c < V) (hcl : cl.length = V) (hfi : fi.length = V) (hla : la.length = V) (hk : cl.getD v 0 = (c : Int)) (hn : ¬ fi.getD c 0 < 0) {g : Nat} (hg : la.getD c 0 = (g : Int)) (hq : g / nn = 0) (hg9 : g < 1000000) :
    m131_17 N A (f + 1) (nn : Int) ((1 : Nat) : Int) t54 (nn : Int) (i : Int) c0 v1 rows S cl fi la x y z o0 o1 o2 = m131_17 N A f (nn : Int) ((1 : Nat) : Int) t54 (nn : Int) ((i + 1 : Nat) : Int) c0 v1 rows S cl fi (setL la c ((1 * nn + i : Nat) : Int)) x y z (up 0 1 i (fi.getD c 0) (up 0 0 (g % nn) ((1 * nn + i : Nat) : Int) (up 0 1 i ((1 * nn + i : Nat) : Int) o0))) (up 1 1 i (fi.getD c 0) (up 1 0 (g % nn) ((1 * nn + i : Nat) : Int) (up 1 1 i ((1 * nn + i : Nat) : Int) o1))) (up 2 1 i (fi.getD c 0) (up 2 0 (g % nn) ((1 * nn + i : Nat) : Int) (up 2 1 i ((1 * nn + i : Nat) : Int) o2))) := by
  have hat : wr (wr (((1 : Nat) : Int) * (nn : Int)) + (i : Int)) = ((1 * nn + i : Nat) : Int) := by rw [show wr (((1 : Nat) : Int) * (nn : Int)) = ((1 : Nat) : Int) * (nn : Int) from wr_id (by omega) (by omega), wr_id (by omega) (by omega)]; omega
  have e0 : eqI ((1 : Nat) : Int) ((0 : Nat) : Int) = false := rfl
  have e1 : eqI ((1 : Nat) : Int) (((0 : Nat) + (1 : Nat) : Nat) : Int) = true := rfl
  have a1 : ltI (i : Int) (nn : Int) = true := ltI_true (by omega)
  have a2 : leI 0 (i : Int) = true := leI_zero _
  have a3 : wr ((i : Int) + 1) = ((i + 1 : Nat) : Int) := wr_add1 (by omega)
  have a4 : leI (rows.length : Int) (i : Int) = false := leI_false (by omega)
  have a5 : ltI (i : Int) (rows.length : Int) = true := ltI_true (by omega)
  have a6 : ltI (v : Int) 0 = false := ltI_false (by omega)
  have a7 : leI 0 (v : Int) = true := leI_zero _
  have a8 : ltI (v : Int) (V : Int) = true := ltI_true (by omega)
  have a9 : leI 0 (c : Int) = true := leI_zero _
  have a10 : ltI (c : Int) (V : Int) = true := ltI_true (by omega)
  have q0 : eqI ((0 : Nat) : Int) ((0 : Nat) : Int) = true := rfl
  have a11 : ltI (fi.getD c 0) 0 = false := ltI_false hn
  have a12 : wr (Int.tdiv (g : Int) (nn : Int)) = ((0 : Nat) : Int) := by rw [tdiv_nat, wr_id (by omega) (by omega), hq]
  have a13 : Int.tmod (g : Int) (nn : Int) = ((g % nn : Nat) : Int) := rfl
  have a14 : eqI (nn : Int) 0 = false := eqI_false (by omega)
  have a15 : leI 0 ((g % nn : Nat) : Int) = true := leI_zero _
  have a16 : ltI ((g % nn : Nat) : Int) (nn : Int) = true := ltI_true (by have := Nat.mod_lt g (show 0 < nn by omega); omega)
  rw [m131_17_succ]
  unfold c131_17
  simp only [a11, a12, a13, a14, a15, a16, hg, q0, hoq, setL_length, Bool.not_false, a1, a2, a3, a4, a5, a6, a7, a8, a9, a10, e0, e1, hat, ho, hw, hk, hcl, hfi, hla, cond_true, cond_false, Bool.and_self, mst2, Int.toNat_natCast]
  rfl
theorem more_1_1 {N f nn i : Nat} (A : Int → Int → Int → Int → (List Row) → (List Pr) → (List Int) → (List Int) → (List Int) → (List Int) → (List Int) → (List Int) → (List Int) → (List Int) → (List Int) → Option ((List Int × List Int × List Int × Unit) × Int × Unit)) (t54 c0 v1 : Int) (rows : List Row) (S : List Pr) (cl fi la x y z o0 o1 o2 : List Int) (hb : nn ≤ 64) (hi : i < nn) (ho : o1.length = nn) (hr : i < rows.length) {v c V : Nat} (hw : Row.w1 (rows.getD i zrow) = (v : Int)) (hv : v < V) (hc : c < V) (hcl : cl.length = V) (hfi : fi.length = V) (hla : la.length = V) (hk : cl.getD v 0 = (c : Int)) (hn : ¬ fi.getD c 0 < 0) {g : Nat} (hg : la.getD c 0 = (g : Int)) (hq : g / nn = 1) (hg9 : g < 1000000) :
    m131_17 N A (f + 1) (nn : Int) ((1 : Nat) : Int) t54 (nn : Int) (i : Int) c0 v1 rows S cl fi la x y z o0 o1 o2 = m131_17 N A f (nn : Int) ((1 : Nat) : Int) t54 (nn : Int) ((i + 1 : Nat) : Int) c0 v1 rows S cl fi (setL la c ((1 * nn + i : Nat) : Int)) x y z (up 0 1 i (fi.getD c 0) (up 0 1 (g % nn) ((1 * nn + i : Nat) : Int) (up 0 1 i ((1 * nn + i : Nat) : Int) o0))) (up 1 1 i (fi.getD c 0) (up 1 1 (g % nn) ((1 * nn + i : Nat) : Int) (up 1 1 i ((1 * nn + i : Nat) : Int) o1))) (up 2 1 i (fi.getD c 0) (up 2 1 (g % nn) ((1 * nn + i : Nat) : Int) (up 2 1 i ((1 * nn + i : Nat) : Int) o2))) := by
  have hat : wr (wr (((1 : Nat) : Int) * (nn : Int)) + (i : Int)) = ((1 * nn + i : Nat) : Int) := by rw [show wr (((1 : Nat) : Int) * (nn : Int)) = ((1 : Nat) : Int) * (nn : Int) from wr_id (by omega) (by omega), wr_id (by omega) (by omega)]; omega
  have e0 : eqI ((1 : Nat) : Int) ((0 : Nat) : Int) = false := rfl
  have e1 : eqI ((1 : Nat) : Int) (((0 : Nat) + (1 : Nat) : Nat) : Int) = true := rfl
  have a1 : ltI (i : Int) (nn : Int) = true := ltI_true (by omega)
  have a2 : leI 0 (i : Int) = true := leI_zero _
  have a3 : wr ((i : Int) + 1) = ((i + 1 : Nat) : Int) := wr_add1 (by omega)
  have a4 : leI (rows.length : Int) (i : Int) = false := leI_false (by omega)
  have a5 : ltI (i : Int) (rows.length : Int) = true := ltI_true (by omega)
  have a6 : ltI (v : Int) 0 = false := ltI_false (by omega)
  have a7 : leI 0 (v : Int) = true := leI_zero _
  have a8 : ltI (v : Int) (V : Int) = true := ltI_true (by omega)
  have a9 : leI 0 (c : Int) = true := leI_zero _
  have a10 : ltI (c : Int) (V : Int) = true := ltI_true (by omega)
  have q0 : eqI ((1 : Nat) : Int) ((0 : Nat) : Int) = false := rfl
  have q1 : eqI ((1 : Nat) : Int) (((0 : Nat) + (1 : Nat) : Nat) : Int) = true := rfl
  have a11 : ltI (fi.getD c 0) 0 = false := ltI_false hn
  have a12 : wr (Int.tdiv (g : Int) (nn : Int)) = ((1 : Nat) : Int) := by rw [tdiv_nat, wr_id (by omega) (by omega), hq]
  have a13 : Int.tmod (g : Int) (nn : Int) = ((g % nn : Nat) : Int) := rfl
  have a14 : eqI (nn : Int) 0 = false := eqI_false (by omega)
  have a15 : leI 0 ((g % nn : Nat) : Int) = true := leI_zero _
  have a16 : ltI ((g % nn : Nat) : Int) (nn : Int) = true := ltI_true (by have := Nat.mod_lt g (show 0 < nn by omega); omega)
  rw [m131_17_succ]
  unfold c131_17
  simp only [a11, a12, a13, a14, a15, a16, hg, q0, q1, setL_length, Bool.not_false, a1, a2, a3, a4, a5, a6, a7, a8, a9, a10, e0, e1, hat, ho, hw, hk, hcl, hfi, hla, cond_true, cond_false, Bool.and_self, mst2, Int.toNat_natCast]
  rfl
theorem skip_2 {N f nn i : Nat} (A : Int → Int → Int → Int → (List Row) → (List Pr) → (List Int) → (List Int) → (List Int) → (List Int) → (List Int) → (List Int) → (List Int) → (List Int) → (List Int) → Option ((List Int × List Int × List Int × Unit) × Int × Unit)) (t54 c0 v1 : Int) (rows : List Row) (S : List Pr) (cl fi la x y z o0 o1 o2 : List Int) (hb : nn ≤ 64) (hi : i < nn) (ho : o2.length = nn) (hs : rows.length ≤ i ∨ Row.w2 (rows.getD i zrow) < 0) :
    m131_17 N A (f + 1) (nn : Int) ((2 : Nat) : Int) t54 (nn : Int) (i : Int) c0 v1 rows S cl fi la x y z o0 o1 o2 = m131_17 N A f (nn : Int) ((2 : Nat) : Int) t54 (nn : Int) ((i + 1 : Nat) : Int) c0 v1 rows S cl fi la x y z (up 0 2 i ((2 * nn + i : Nat) : Int) o0) (up 1 2 i ((2 * nn + i : Nat) : Int) o1) (up 2 2 i ((2 * nn + i : Nat) : Int) o2) := by
  have hat : wr (wr (((2 : Nat) : Int) * (nn : Int)) + (i : Int)) = ((2 * nn + i : Nat) : Int) := by rw [show wr (((2 : Nat) : Int) * (nn : Int)) = ((2 : Nat) : Int) * (nn : Int) from wr_id (by omega) (by omega), wr_id (by omega) (by omega)]; omega
  have e0 : eqI ((2 : Nat) : Int) ((0 : Nat) : Int) = false := rfl
  have e1 : eqI ((2 : Nat) : Int) (((0 : Nat) + (1 : Nat) : Nat) : Int) = false := rfl
  have e2 : eqI ((2 : Nat) : Int) (((0 : Nat) + (1 : Nat) + (1 : Nat) : Nat) : Int) = true := rfl
  have a1 : ltI (i : Int) (nn : Int) = true := ltI_true (by omega)
  have a2 : leI 0 (i : Int) = true := leI_zero _
  have a3 : wr ((i : Int) + 1) = ((i + 1 : Nat) : Int) := wr_add1 (by omega)
  rw [m131_17_succ]
  unfold c131_17
  by_cases hr : rows.length ≤ i
  · have a4 : leI (rows.length : Int) (i : Int) = true := leI_true (by omega)
    simp only [a1, a2, a3, a4, e0, e1, e2, hat, ho, cond_true, cond_false, Bool.and_self, mst2, Int.toNat_natCast]
    rfl
  · have a4 : leI (rows.length : Int) (i : Int) = false := leI_false (by omega)
    have a5 : ltI (i : Int) (rows.length : Int) = true := ltI_true (by omega)
    have a6 : ltI (Row.w2 (rows.getD i zrow)) 0 = true := ltI_true (by omega)
    simp only [a1, a2, a3, a4, a5, a6, e0, e1, e2, hat, ho, cond_true, cond_false, Bool.and_self, mst2, Int.toNat_natCast]
    rfl
theorem new_2 {N f nn i : Nat} (A : Int → Int → Int → Int → (List Row) → (List Pr) → (List Int) → (List Int) → (List Int) → (List Int) → (List Int) → (List Int) → (List Int) → (List Int) → (List Int) → Option ((List Int × List Int × List Int × Unit) × Int × Unit)) (t54 c0 v1 : Int) (rows : List Row) (S : List Pr) (cl fi la x y z o0 o1 o2 : List Int) (hb : nn ≤ 64) (hi : i < nn) (ho : o2.length = nn) (hr : i < rows.length) {v c V : Nat} (hw : Row.w2 (rows.getD i zrow) = (v : Int)) (hv : v < V) (hc : c < V) (hcl : cl.length = V) (hfi : fi.length = V) (hla : la.length = V) (hk : cl.getD v 0 = (c : Int)) (hn : fi.getD c 0 < 0) :
    m131_17 N A (f + 1) (nn : Int) ((2 : Nat) : Int) t54 (nn : Int) (i : Int) c0 v1 rows S cl fi la x y z o0 o1 o2 = m131_17 N A f (nn : Int) ((2 : Nat) : Int) t54 (nn : Int) ((i + 1 : Nat) : Int) c0 v1 rows S cl (setL fi c ((2 * nn + i : Nat) : Int)) (setL la c ((2 * nn + i : Nat) : Int)) x y z (up 0 2 i ((2 * nn + i : Nat) : Int) o0) (up 1 2 i ((2 * nn + i : Nat) : Int) o1) (up 2 2 i ((2 * nn + i : Nat) : Int) o2) := by
  have hat : wr (wr (((2 : Nat) : Int) * (nn : Int)) + (i : Int)) = ((2 * nn + i : Nat) : Int) := by rw [show wr (((2 : Nat) : Int) * (nn : Int)) = ((2 : Nat) : Int) * (nn : Int) from wr_id (by omega) (by omega), wr_id (by omega) (by omega)]; omega
  have e0 : eqI ((2 : Nat) : Int) ((0 : Nat) : Int) = false := rfl
  have e1 : eqI ((2 : Nat) : Int) (((0 : Nat) + (1 : Nat) : Nat) : Int) = false := rfl
  have e2 : eqI ((2 : Nat) : Int) (((0 : Nat) + (1 : Nat) + (1 : Nat) : Nat) : Int) = true := rfl
  have a1 : ltI (i : Int) (nn : Int) = true := ltI_true (by omega)
  have a2 : leI 0 (i : Int) = true := leI_zero _
  have a3 : wr ((i : Int) + 1) = ((i + 1 : Nat) : Int) := wr_add1 (by omega)
  have a4 : leI (rows.length : Int) (i : Int) = false := leI_false (by omega)
  have a5 : ltI (i : Int) (rows.length : Int) = true := ltI_true (by omega)
  have a6 : ltI (v : Int) 0 = false := ltI_false (by omega)
  have a7 : leI 0 (v : Int) = true := leI_zero _
  have a8 : ltI (v : Int) (V : Int) = true := ltI_true (by omega)
  have a9 : leI 0 (c : Int) = true := leI_zero _
  have a10 : ltI (c : Int) (V : Int) = true := ltI_true (by omega)
  have a11 : ltI (fi.getD c 0) 0 = true := ltI_true hn
  rw [m131_17_succ]
  unfold c131_17
  simp only [a11, a1, a2, a3, a4, a5, a6, a7, a8, a9, a10, e0, e1, e2, hat, ho, hw, hk, hcl, hfi, hla, cond_true, cond_false, Bool.and_self, mst2, Int.toNat_natCast]
  rfl
theorem more_2_0 {N f nn i : Nat} (A : Int → Int → Int → Int → (List Row) → (List Pr) → (List Int) → (List Int) → (List Int) → (List Int) → (List Int) → (List Int) → (List Int) → (List Int) → (List Int) → Option ((List Int × List Int × List Int × Unit) × Int × Unit)) (t54 c0 v1 : Int) (rows : List Row) (S : List Pr) (cl fi la x y z o0 o1 o2 : List Int) (hb : nn ≤ 64) (hi : i < nn) (ho : o2.length = nn) (hoq : o0.length = nn) (hr : i < rows.length) {v c V : Nat} (hw : Row.w2 (rows.getD i zrow) = (v : Int)) (hv : v < V) (hc : c < V) (hcl : cl.length = V) (hfi : fi.length = V) (hla : la.length = V) (hk : cl.getD v 0 = (c : Int)) (hn : ¬ fi.getD c 0 < 0) {g : Nat} (hg : la.getD c 0 = (g : Int)) (hq : g / nn = 0) (hg9 : g < 1000000) :
    m131_17 N A (f + 1) (nn : Int) ((2 : Nat) : Int) t54 (nn : Int) (i : Int) c0 v1 rows S cl fi la x y z o0 o1 o2 = m131_17 N A f (nn : Int) ((2 : Nat) : Int) t54 (nn : Int) ((i + 1 : Nat) : Int) c0 v1 rows S cl fi (setL la c ((2 * nn + i : Nat) : Int)) x y z (up 0 2 i (fi.getD c 0) (up 0 0 (g % nn) ((2 * nn + i : Nat) : Int) (up 0 2 i ((2 * nn + i : Nat) : Int) o0))) (up 1 2 i (fi.getD c 0) (up 1 0 (g % nn) ((2 * nn + i : Nat) : Int) (up 1 2 i ((2 * nn + i : Nat) : Int) o1))) (up 2 2 i (fi.getD c 0) (up 2 0 (g % nn) ((2 * nn + i : Nat) : Int) (up 2 2 i ((2 * nn + i : Nat) : Int) o2))) := by
  have hat : wr (wr (((2 : Nat) : Int) * (nn : Int)) + (i : Int)) = ((2 * nn + i : Nat) : Int) := by rw [show wr (((2 : Nat) : Int) * (nn : Int)) = ((2 : Nat) : Int) * (nn : Int) from wr_id (by omega) (by omega), wr_id (by omega) (by omega)]; omega
  have e0 : eqI ((2 : Nat) : Int) ((0 : Nat) : Int) = false := rfl
  have e1 : eqI ((2 : Nat) : Int) (((0 : Nat) + (1 : Nat) : Nat) : Int) = false := rfl
  have e2 : eqI ((2 : Nat) : Int) (((0 : Nat) + (1 : Nat) + (1 : Nat) : Nat) : Int) = true := rfl
  have a1 : ltI (i : Int) (nn : Int) = true := ltI_true (by omega)
  have a2 : leI 0 (i : Int) = true := leI_zero _
  have a3 : wr ((i : Int) + 1) = ((i + 1 : Nat) : Int) := wr_add1 (by omega)
  have a4 : leI (rows.length : Int) (i : Int) = false := leI_false (by omega)
  have a5 : ltI (i : Int) (rows.length : Int) = true := ltI_true (by omega)
  have a6 : ltI (v : Int) 0 = false := ltI_false (by omega)
  have a7 : leI 0 (v : Int) = true := leI_zero _
  have a8 : ltI (v : Int) (V : Int) = true := ltI_true (by omega)
  have a9 : leI 0 (c : Int) = true := leI_zero _
  have a10 : ltI (c : Int) (V : Int) = true := ltI_true (by omega)
  have q0 : eqI ((0 : Nat) : Int) ((0 : Nat) : Int) = true := rfl
  have a11 : ltI (fi.getD c 0) 0 = false := ltI_false hn
  have a12 : wr (Int.tdiv (g : Int) (nn : Int)) = ((0 : Nat) : Int) := by rw [tdiv_nat, wr_id (by omega) (by omega), hq]
  have a13 : Int.tmod (g : Int) (nn : Int) = ((g % nn : Nat) : Int) := rfl
  have a14 : eqI (nn : Int) 0 = false := eqI_false (by omega)
  have a15 : leI 0 ((g % nn : Nat) : Int) = true := leI_zero _
  have a16 : ltI ((g % nn : Nat) : Int) (nn : Int) = true := ltI_true (by have := Nat.mod_lt g (show 0 < nn by omega); omega)
  rw [m131_17_succ]
  unfold c131_17
  simp only [a11, a12, a13, a14, a15, a16, hg, q0, hoq, setL_length, Bool.not_false, a1, a2, a3, a4, a5, a6, a7, a8, a9, a10, e0, e1, e2, hat, ho, hw, hk, hcl, hfi, hla, cond_true, cond_false, Bool.and_self, mst2, Int.toNat_natCast]
  rfl
theorem more_2_1 {N f nn i : Nat} (A : Int → Int → Int → Int → (List Row) → (List Pr) → (List Int) → (List Int) → (List Int) → (List Int) → (List Int) → (List Int) → (List Int) → (List Int) → (List Int) → Option ((List Int × List Int × List Int × Unit) × Int × Unit)) (t54 c0 v1 : Int) (rows : List Row) (S : List Pr) (cl fi la x y z o0 o1 o2 : List Int) (hb : nn ≤ 64) (hi : i < nn) (ho : o2.length = nn) (hoq : o1.length = nn) (hr : i < rows.length) {v c V : Nat} (hw : Row.w2 (rows.getD i zrow) = (v : Int)) (hv : v < V) (hc : c < V) (hcl : cl.length = V) (hfi : fi.length = V) (hla : la.length = V) (hk : cl.getD v 0 = (c : Int)) (hn : ¬ fi.getD c 0 < 0) {g : Nat} (hg : la.getD c 0 = (g : Int)) (hq : g / nn = 1) (hg9 : g < 1000000) :
    m131_17 N A (f + 1) (nn : Int) ((2 : Nat) : Int) t54 (nn : Int) (i : Int) c0 v1 rows S cl fi la x y z o0 o1 o2 = m131_17 N A f (nn : Int) ((2 : Nat) : Int) t54 (nn : Int) ((i + 1 : Nat) : Int) c0 v1 rows S cl fi (setL la c ((2 * nn + i : Nat) : Int)) x y z (up 0 2 i (fi.getD c 0) (up 0 1 (g % nn) ((2 * nn + i : Nat) : Int) (up 0 2 i ((2 * nn + i : Nat) : Int) o0))) (up 1 2 i (fi.getD c 0) (up 1 1 (g % nn) ((2 * nn + i : Nat) : Int) (up 1 2 i ((2 * nn + i : Nat) : Int) o1))) (up 2 2 i (fi.getD c 0) (up 2 1 (g % nn) ((2 * nn + i : Nat) : Int) (up 2 2 i ((2 * nn + i : Nat) : Int) o2))) := by
  have hat : wr (wr (((2 : Nat) : Int) * (nn : Int)) + (i : Int)) = ((2 * nn + i : Nat) : Int) := by rw [show wr (((2 : Nat) : Int) * (nn : Int)) = ((2 : Nat) : Int) * (nn : Int) from wr_id (by omega) (by omega), wr_id (by omega) (by omega)]; omega
  have e0 : eqI ((2 : Nat) : Int) ((0 : Nat) : Int) = false := rfl
  have e1 : eqI ((2 : Nat) : Int) (((0 : Nat) + (1 : Nat) : Nat) : Int) = false := rfl
  have e2 : eqI ((2 : Nat) : Int) (((0 : Nat) + (1 : Nat) + (1 : Nat) : Nat) : Int) = true := rfl
  have a1 : ltI (i : Int) (nn : Int) = true := ltI_true (by omega)
  have a2 : leI 0 (i : Int) = true := leI_zero _
  have a3 : wr ((i : Int) + 1) = ((i + 1 : Nat) : Int) := wr_add1 (by omega)
  have a4 : leI (rows.length : Int) (i : Int) = false := leI_false (by omega)
  have a5 : ltI (i : Int) (rows.length : Int) = true := ltI_true (by omega)
  have a6 : ltI (v : Int) 0 = false := ltI_false (by omega)
  have a7 : leI 0 (v : Int) = true := leI_zero _
  have a8 : ltI (v : Int) (V : Int) = true := ltI_true (by omega)
  have a9 : leI 0 (c : Int) = true := leI_zero _
  have a10 : ltI (c : Int) (V : Int) = true := ltI_true (by omega)
  have q0 : eqI ((1 : Nat) : Int) ((0 : Nat) : Int) = false := rfl
  have q1 : eqI ((1 : Nat) : Int) (((0 : Nat) + (1 : Nat) : Nat) : Int) = true := rfl
  have a11 : ltI (fi.getD c 0) 0 = false := ltI_false hn
  have a12 : wr (Int.tdiv (g : Int) (nn : Int)) = ((1 : Nat) : Int) := by rw [tdiv_nat, wr_id (by omega) (by omega), hq]
  have a13 : Int.tmod (g : Int) (nn : Int) = ((g % nn : Nat) : Int) := rfl
  have a14 : eqI (nn : Int) 0 = false := eqI_false (by omega)
  have a15 : leI 0 ((g % nn : Nat) : Int) = true := leI_zero _
  have a16 : ltI ((g % nn : Nat) : Int) (nn : Int) = true := ltI_true (by have := Nat.mod_lt g (show 0 < nn by omega); omega)
  rw [m131_17_succ]
  unfold c131_17
  simp only [a11, a12, a13, a14, a15, a16, hg, q0, q1, hoq, setL_length, Bool.not_false, a1, a2, a3, a4, a5, a6, a7, a8, a9, a10, e0, e1, e2, hat, ho, hw, hk, hcl, hfi, hla, cond_true, cond_false, Bool.and_self, mst2, Int.toNat_natCast]
  rfl
theorem more_2_2 {N f nn i : Nat} (A : Int → Int → Int → Int → (List Row) → (List Pr) → (List Int) → (List Int) → (List Int) → (List Int) → (List Int) → (List Int) → (List Int) → (List Int) → (List Int) → Option ((List Int × List Int × List Int × Unit) × Int × Unit)) (t54 c0 v1 : Int) (rows : List Row) (S : List Pr) (cl fi la x y z o0 o1 o2 : List Int) (hb : nn ≤ 64) (hi : i < nn) (ho : o2.length = nn) (hr : i < rows.length) {v c V : Nat} (hw : Row.w2 (rows.getD i zrow) = (v : Int)) (hv : v < V) (hc : c < V) (hcl : cl.length = V) (hfi : fi.length = V) (hla : la.length = V) (hk : cl.getD v 0 = (c : Int)) (hn : ¬ fi.getD c 0 < 0) {g : Nat} (hg : la.getD c 0 = (g : Int)) (hq : g / nn = 2) (hg9 : g < 1000000) :
    m131_17 N A (f + 1) (nn : Int) ((2 : Nat) : Int) t54 (nn : Int) (i : Int) c0 v1 rows S cl fi la x y z o0 o1 o2 = m131_17 N A f (nn : Int) ((2 : Nat) : Int) t54 (nn : Int) ((i + 1 : Nat) : Int) c0 v1 rows S cl fi (setL la c ((2 * nn + i : Nat) : Int)) x y z (up 0 2 i (fi.getD c 0) (up 0 2 (g % nn) ((2 * nn + i : Nat) : Int) (up 0 2 i ((2 * nn + i : Nat) : Int) o0))) (up 1 2 i (fi.getD c 0) (up 1 2 (g % nn) ((2 * nn + i : Nat) : Int) (up 1 2 i ((2 * nn + i : Nat) : Int) o1))) (up 2 2 i (fi.getD c 0) (up 2 2 (g % nn) ((2 * nn + i : Nat) : Int) (up 2 2 i ((2 * nn + i : Nat) : Int) o2))) := by
  have hat : wr (wr (((2 : Nat) : Int) * (nn : Int)) + (i : Int)) = ((2 * nn + i : Nat) : Int) := by rw [show wr (((2 : Nat) : Int) * (nn : Int)) = ((2 : Nat) : Int) * (nn : Int) from wr_id (by omega) (by omega), wr_id (by omega) (by omega)]; omega
  have e0 : eqI ((2 : Nat) : Int) ((0 : Nat) : Int) = false := rfl
  have e1 : eqI ((2 : Nat) : Int) (((0 : Nat) + (1 : Nat) : Nat) : Int) = false := rfl
  have e2 : eqI ((2 : Nat) : Int) (((0 : Nat) + (1 : Nat) + (1 : Nat) : Nat) : Int) = true := rfl
  have a1 : ltI (i : Int) (nn : Int) = true := ltI_true (by omega)
  have a2 : leI 0 (i : Int) = true := leI_zero _
  have a3 : wr ((i : Int) + 1) = ((i + 1 : Nat) : Int) := wr_add1 (by omega)
  have a4 : leI (rows.length : Int) (i : Int) = false := leI_false (by omega)
  have a5 : ltI (i : Int) (rows.length : Int) = true := ltI_true (by omega)
  have a6 : ltI (v : Int) 0 = false := ltI_false (by omega)
  have a7 : leI 0 (v : Int) = true := leI_zero _
  have a8 : ltI (v : Int) (V : Int) = true := ltI_true (by omega)
  have a9 : leI 0 (c : Int) = true := leI_zero _
  have a10 : ltI (c : Int) (V : Int) = true := ltI_true (by omega)
  have q0 : eqI ((2 : Nat) : Int) ((0 : Nat) : Int) = false := rfl
  have q1 : eqI ((2 : Nat) : Int) (((0 : Nat) + (1 : Nat) : Nat) : Int) = false := rfl
  have q2 : eqI ((2 : Nat) : Int) (((0 : Nat) + (1 : Nat) + (1 : Nat) : Nat) : Int) = true := rfl
  have a11 : ltI (fi.getD c 0) 0 = false := ltI_false hn
  have a12 : wr (Int.tdiv (g : Int) (nn : Int)) = ((2 : Nat) : Int) := by rw [tdiv_nat, wr_id (by omega) (by omega), hq]
  have a13 : Int.tmod (g : Int) (nn : Int) = ((g % nn : Nat) : Int) := rfl
  have a14 : eqI (nn : Int) 0 = false := eqI_false (by omega)
  have a15 : leI 0 ((g % nn : Nat) : Int) = true := leI_zero _
  have a16 : ltI ((g % nn : Nat) : Int) (nn : Int) = true := ltI_true (by have := Nat.mod_lt g (show 0 < nn by omega); omega)
  rw [m131_17_succ]
  unfold c131_17
  simp only [a11, a12, a13, a14, a15, a16, hg, q0, q1, q2, setL_length, Bool.not_false, a1, a2, a3, a4, a5, a6, a7, a8, a9, a10, e0, e1, e2, hat, ho, hw, hk, hcl, hfi, hla, cond_true, cond_false, Bool.and_self, mst2, Int.toNat_natCast]
  rfl
end Go.Proofs.Ytgimohchocjgcaa.V
