import Derived.Test.YtgimohchocjgcaaVWB2
import Derived.KernelRfl
set_option linter.unusedVariables false
set_option linter.unusedSimpArgs false
namespace Go.Proofs.Ytgimohchocjgcaa.V
theorem setL_getI (l : List Int) (i : Nat) (a : Int) (p : Nat) : (setL l i a).getD p 0 = if p = i ∧ i < l.length then a else l.getD p 0 := by
  induction l generalizing i p with
  | nil => simp [setL]
  | cons x l ih =>
    cases i with
    | zero => cases p <;> simp [setL]
    | succ i =>
      cases p with
      | zero => simp [setL]
      | succ p =>
        have := ih i p
        simp only [List.getD_eq_getElem?_getD] at this
        simp [setL, this]
def smI : List Int → Nat
  | [] => 0
  | x :: l => x.toNat + smI l
theorem smI_set (l : List Int) (i : Nat) (a : Int) (h : i < l.length) : smI (setL l i a) + (l.getD i 0).toNat = smI l + a.toNat := by
  induction l generalizing i with
  | nil => simp at h
  | cons x l ih =>
    cases i with
    | zero => simp [setL, smI]; omega
    | succ i =>
      have := ih i (by simpa using h)
      simp only [setL, smI, List.getD_cons_succ]
      omega
inductive Alike2 (S : List Pr) : Int → Int → Prop
  | refl (a : Int) : Alike2 S a a
  | pair {p : Pr} : p ∈ S → Alike2 S p.x p.y
  | symm {a b : Int} : Alike2 S a b → Alike2 S b a
  | trans {a b c : Int} : Alike2 S a b → Alike2 S b c → Alike2 S a c
def PairsIn (S : List Pr) (V : Nat) : Prop := ∀ p ∈ S, (0 ≤ p.x ∧ p.x < (V : Int)) ∧ 0 ≤ p.y ∧ p.y < (V : Int)
structure GoodC (S : List Pr) (V : Nat) (l : List Int) : Prop where
  len : l.length = V
  nn : ∀ i : Nat, i < V → 0 ≤ l.getD i 0
  le : ∀ i : Nat, i < V → l.getD i 0 ≤ (i : Int)
  al : ∀ i : Nat, i < V → Alike2 S (i : Int) (l.getD i 0)
def FixC (S : List Pr) (l : List Int) : Prop := ∀ p ∈ S, l.getD p.x.toNat 0 = l.getD p.y.toNat 0
theorem fix_alike {S : List Pr} {V : Nat} {l : List Int} (hS : PairsIn S V) (hf : FixC S l) {a b : Int} (h : Alike2 S a b) : l.getD a.toNat 0 = l.getD b.toNat 0 := by
  induction h with
  | refl => rfl
  | pair hp => exact hf _ hp
  | symm _ ih => exact ih.symm
  | trans _ _ h1 h2 => exact h1.trans h2
theorem fix_unique {S : List Pr} {V : Nat} {l m : List Int} (hS : PairsIn S V) (hl : GoodC S V l) (hm : GoodC S V m) (fl : FixC S l) (fm : FixC S m) : l = m := by
  have key : ∀ (l m : List Int), GoodC S V l → GoodC S V m → FixC S l → ∀ i, i < V → l.getD i 0 ≤ m.getD i 0 := by
    intro l m hl hm fl i hi
    have h1 := fix_alike hS fl (hm.al i hi)
    have h2 := hm.nn i hi
    have h3 := hm.le i hi
    have h4 := hl.le (m.getD i 0).toNat (by omega)
    rw [Int.toNat_natCast] at h1
    rw [h1]
    omega
  have hlen : l.length = m.length := by rw [hl.len, hm.len]
  refine List.ext_getElem hlen fun i h1 h2 => ?_
  have e1 : l.getD i 0 = l[i] := by simp [List.getD_eq_getElem?_getD, List.getElem?_eq_getElem h1]
  have e2 : m.getD i 0 = m[i] := by simp [List.getD_eq_getElem?_getD, List.getElem?_eq_getElem h2]
  have hi : i < V := by rw [← hl.len]; exact h1
  have := key l m hl hm fl i hi
  have := key m l hm hl fm i hi
  omega
theorem good_set {S : List Pr} {V : Nat} {l : List Int} (h : GoodC S V l) {i : Nat} {a : Int} (hi : i < V) (h0 : 0 ≤ a) (h1 : a ≤ l.getD i 0) (h2 : Alike2 S (i : Int) a) : GoodC S V (setL l i a) := by
  refine ⟨by rw [setL_length]; exact h.len, fun j hj => ?_, fun j hj => ?_, fun j hj => ?_⟩
  · rw [setL_getI]
    split
    · exact h0
    · exact h.nn j hj
  · rw [setL_getI]
    split
    · rename_i hc; rw [hc.1]; exact Int.le_trans h1 (h.le i hi)
    · exact h.le j hj
  · rw [setL_getI]
    split
    · rename_i hc; rw [hc.1]; exact h2
    · exact h.al j hj
theorem good_at {S : List Pr} {V : Nat} {l : List Int} (h : GoodC S V l) {a : Int} (h0 : 0 ≤ a) (h1 : a < (V : Int)) : Alike2 S a (l.getD a.toNat 0) := by
  have := h.al a.toNat (by omega)
  rwa [Int.toNat_of_nonneg h0] at this
theorem good_pair {S : List Pr} {V : Nat} {l : List Int} (hS : PairsIn S V) (h : GoodC S V l) {p : Pr} (hp : p ∈ S) :
    GoodC S V (setL (setL l p.x.toNat (mnI (l.getD p.x.toNat 0) (l.getD p.y.toNat 0))) p.y.toNat (mnI (l.getD p.x.toNat 0) (l.getD p.y.toNat 0))) ∧
    smI (setL (setL l p.x.toNat (mnI (l.getD p.x.toNat 0) (l.getD p.y.toNat 0))) p.y.toNat (mnI (l.getD p.x.toNat 0) (l.getD p.y.toNat 0))) ≤ smI l ∧
    (l.getD p.x.toNat 0 ≠ l.getD p.y.toNat 0 → smI (setL (setL l p.x.toNat (mnI (l.getD p.x.toNat 0) (l.getD p.y.toNat 0))) p.y.toNat (mnI (l.getD p.x.toNat 0) (l.getD p.y.toNat 0))) < smI l) := by
  obtain ⟨⟨hx0, hx1⟩, hy0, hy1⟩ := hS p hp
  have hx : p.x.toNat < V := by omega
  have hy : p.y.toNat < V := by omega
  have ax := good_at h hx0 hx1
  have ay := good_at h hy0 hy1
  have ap : Alike2 S p.x p.y := .pair hp
  have cx : ((p.x.toNat : Nat) : Int) = p.x := Int.toNat_of_nonneg hx0
  have cy : ((p.y.toNat : Nat) : Int) = p.y := Int.toNat_of_nonneg hy0
  have nx := h.nn _ hx
  have ny := h.nn _ hy
  generalize hmin : mnI (l.getD p.x.toNat 0) (l.getD p.y.toNat 0) = m
  have hm : (m = l.getD p.x.toNat 0 ∨ m = l.getD p.y.toNat 0) ∧ m ≤ l.getD p.x.toNat 0 ∧ m ≤ l.getD p.y.toNat 0 := by
    rw [← hmin]
    unfold mnI
    by_cases hlt : l.getD p.y.toNat 0 < l.getD p.x.toNat 0
    · rw [ltI_true hlt, cond_true]; exact ⟨.inr rfl, by omega, by omega⟩
    · rw [ltI_false hlt, cond_false]; exact ⟨.inl rfl, by omega, by omega⟩
  obtain ⟨hm1, hm2, hm3⟩ := hm
  have am : Alike2 S p.x m := by
    rcases hm1 with e | e
    · rw [e]; exact ax
    · rw [e]; exact ap.trans ay
  have g1 : GoodC S V (setL l p.x.toNat m) := good_set h hx (by omega) hm2 (by rw [cx]; exact am)
  have hy2 : m ≤ (setL l p.x.toNat m).getD p.y.toNat 0 := by
    rw [setL_getI]
    split
    · exact Int.le_refl _
    · exact hm3
  have g2 : GoodC S V (setL (setL l p.x.toNat m) p.y.toNat m) := good_set g1 hy (by omega) hy2 (by rw [cy]; exact ap.symm.trans am)
  have s1 := smI_set l p.x.toNat m (by rw [h.len]; exact hx)
  have s2 := smI_set (setL l p.x.toNat m) p.y.toNat m (by rw [g1.len]; exact hy)
  have hv : (setL l p.x.toNat m).getD p.y.toNat 0 = m ∧ p.y.toNat = p.x.toNat ∨ (setL l p.x.toNat m).getD p.y.toNat 0 = l.getD p.y.toNat 0 := by
    rw [setL_getI]
    split
    · rename_i hc; exact .inl ⟨rfl, hc.1⟩
    · exact .inr rfl
  refine ⟨g2, ?_, fun hne => ?_⟩
  · rcases hv with ⟨e, _⟩ | e <;> rw [e] at s2 <;> omega
  · rcases hv with ⟨e, e2⟩ | e
    · exact absurd (by rw [e2]) hne
    · rw [e] at s2
      omega
end Go.Proofs.Ytgimohchocjgcaa.V
