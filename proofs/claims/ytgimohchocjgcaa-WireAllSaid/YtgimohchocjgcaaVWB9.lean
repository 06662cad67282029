import Derived.Test.YtgimohchocjgcaaVWB8
import Derived.KernelRfl
set_option linter.unusedVariables false
set_option linter.unusedSimpArgs false
namespace Go.Proofs.Ytgimohchocjgcaa.V
def Follows (k : Nat → Int) (M x y : Nat) : Prop :=
  (k x < 0 ∧ y = x) ∨ (0 ≤ k x ∧ ∃ d, 1 ≤ d ∧ d ≤ M ∧ y = (x + d) % M ∧ k y = k x ∧ ∀ e, 1 ≤ e → e < d → k ((x + e) % M) ≠ k x)
theorem follows_unique {k : Nat → Int} {M x y z : Nat} (h1 : Follows k M x y) (h2 : Follows k M x z) : y = z := by
  rcases h1 with ⟨a, b⟩ | ⟨a, d, d1, d2, d3, d4, d5⟩
  · rcases h2 with ⟨a', b'⟩ | ⟨a', _⟩
    · rw [b, b']
    · omega
  · rcases h2 with ⟨a', _⟩ | ⟨a', e, e1, e2, e3, e4, e5⟩
    · omega
    · by_cases h : d < e
      · exact absurd (d3 ▸ d4) (e5 d d1 h)
      · by_cases h' : e < d
        · exact absurd (e3 ▸ e4) (d5 e e1 h')
        · rw [d3, e3, show d = e by omega]
def up (m j i : Nat) (v : Int) (o : List Int) : List Int := if j = m then setL o i v else o
def oG (n : Nat) (o0 o1 o2 : List Int) (z : Nat) : Int := if z / n = 0 then o0.getD (z % n) 0 else if z / n = 1 then o1.getD (z % n) 0 else o2.getD (z % n) 0
theorem up_len (m j i : Nat) (v : Int) (o : List Int) : (up m j i v o).length = o.length := by
  unfold up
  split
  · rw [setL_length]
  · rfl
theorem cell {n j i : Nat} (hi : i < n) : (j * n + i) / n = j ∧ (j * n + i) % n = i := by
  have h0 : 0 < n := by omega
  refine ⟨?_, ?_⟩
  · rw [Nat.mul_comm, Nat.mul_add_div h0, Nat.div_eq_of_lt hi, Nat.add_zero]
  · rw [Nat.mul_comm, Nat.mul_add_mod, Nat.mod_eq_of_lt hi]
theorem cell_eq {n z : Nat} (j i : Nat) (hi : i < n) : z = j * n + i ↔ z / n = j ∧ z % n = i := by
  constructor
  · rintro rfl; exact cell hi
  · rintro ⟨h1, h2⟩
    have := Nat.div_add_mod z n
    rw [h1, h2, Nat.mul_comm] at this
    exact this.symm
theorem oG_up {n j i : Nat} {v : Int} {o0 o1 o2 : List Int} (hi : i < n) (hj : j < 3) (h0 : j = 0 → o0.length = n) (h1 : j = 1 → o1.length = n) (h2 : j = 2 → o2.length = n) (z : Nat) (hz : z < 3 * n) :
    oG n (up 0 j i v o0) (up 1 j i v o1) (up 2 j i v o2) z = if z = j * n + i then v else oG n o0 o1 o2 z := by
  have hz2 : z / n < 3 := Nat.div_lt_of_lt_mul (by omega)
  by_cases hc : z = j * n + i
  · rw [if_pos hc]
    obtain ⟨e1, e2⟩ := (cell_eq j i hi).mp hc
    unfold oG up
    rw [e1, e2]
    obtain rfl | rfl | rfl : j = 0 ∨ j = 1 ∨ j = 2 := by omega
    · show (setL o0 i v).getD i 0 = v
      rw [setL_getI, if_pos ⟨rfl, by rw [h0 rfl]; exact hi⟩]
    · show (setL o1 i v).getD i 0 = v
      rw [setL_getI, if_pos ⟨rfl, by rw [h1 rfl]; exact hi⟩]
    · show (setL o2 i v).getD i 0 = v
      rw [setL_getI, if_pos ⟨rfl, by rw [h2 rfl]; exact hi⟩]
  · rw [if_neg hc]
    have hn : ¬ (z / n = j ∧ z % n = i) := fun h => hc ((cell_eq j i hi).mpr h)
    unfold oG up
    by_cases a0 : z / n = 0
    · rw [if_pos a0, if_pos a0]
      split
      · rename_i hj0; rw [setL_getI, if_neg (fun h => hn ⟨by omega, h.1⟩)]
      · rfl
    · rw [if_neg a0, if_neg a0]
      by_cases a1 : z / n = 1
      · rw [if_pos a1, if_pos a1]
        split
        · rename_i hj1; rw [setL_getI, if_neg (fun h => hn ⟨by omega, h.1⟩)]
        · rfl
      · rw [if_neg a1, if_neg a1]
        split
        · rename_i hj2
          have q2 : ∀ q : Nat, q < 3 → q ≠ 0 → q ≠ 1 → q = 2 := by omega
          rw [setL_getI, if_neg (fun h => hn ⟨(q2 _ hz2 a0 a1).trans hj2.symm, h.1⟩)]
        · rfl
structure PInv (k : Nat → Int) (V n a : Nat) (fi la : List Int) (O : Nat → Int) : Prop where
  lf : fi.length = V
  ll : la.length = V
  F : ∀ c : Nat, c < V → (fi.getD c 0 = -1 ∧ ∀ z, z < a → k z ≠ c) ∨ ∃ f g : Nat, fi.getD c 0 = f ∧ la.getD c 0 = g ∧ f ≤ g ∧ g < a ∧ k f = c ∧ k g = c ∧ (∀ z, z < f → k z ≠ c) ∧ ∀ z, g < z → z < a → k z ≠ c
  O : ∀ z, z < a → (k z < 0 ∧ O z = z) ∨ ∃ c : Nat, c < V ∧ k z = c ∧ ((∃ y : Nat, z < y ∧ y < a ∧ k y = c ∧ (∀ w, z < w → w < y → k w ≠ c) ∧ O z = y) ∨ ((∀ w, z < w → w < a → k w ≠ c) ∧ O z = fi.getD c 0))
theorem inv_none {k : Nat → Int} {V n a : Nat} {fi la : List Int} {O O' : Nat → Int} (h : PInv k V n a fi la O) (hk : k a < 0) (e1 : ∀ z, z < a → O' z = O z) (e2 : O' a = a) : PInv k V n (a + 1) fi la O' := by
  refine ⟨h.lf, h.ll, fun c hc => ?_, fun z hz => ?_⟩
  · rcases h.F c hc with ⟨h1, h2⟩ | ⟨f, g, h1, h2, h3, h4, h5, h6, h7, h8⟩
    · refine .inl ⟨h1, fun z hz => ?_⟩
      by_cases e : z = a
      · subst e; omega
      · exact h2 z (by omega)
    · refine .inr ⟨f, g, h1, h2, h3, by omega, h5, h6, h7, fun z hz hz2 => ?_⟩
      by_cases e : z = a
      · subst e; omega
      · exact h8 z hz (by omega)
  · by_cases e : z = a
    · subst e; exact .inl ⟨hk, e2⟩
    · rw [e1 z (by omega)]
      rcases h.O z (by omega) with h1 | ⟨c, h1, h2, ⟨y, y1, y2, y3, y4, y5⟩ | ⟨h3, h4⟩⟩
      · exact .inl h1
      · exact .inr ⟨c, h1, h2, .inl ⟨y, y1, by omega, y3, y4, y5⟩⟩
      · refine .inr ⟨c, h1, h2, .inr ⟨fun w hw hw2 => ?_, h4⟩⟩
        by_cases e : w = a
        · subst e; omega
        · exact h3 w hw (by omega)
theorem inv_new {k : Nat → Int} {V n a c : Nat} {fi la : List Int} {O O' : Nat → Int} (h : PInv k V n a fi la O) (hc : c < V) (hk : k a = c) (hf : fi.getD c 0 < 0) (e1 : ∀ z, z < a → O' z = O z) (e2 : O' a = a) : PInv k V n (a + 1) (setL fi c (a : Int)) (setL la c (a : Int)) O' := by
  obtain ⟨f1, f2⟩ : fi.getD c 0 = -1 ∧ ∀ z, z < a → k z ≠ c := by
    rcases h.F c hc with h1 | ⟨f, g, h1, _⟩
    · exact h1
    · omega
  refine ⟨by rw [setL_length]; exact h.lf, by rw [setL_length]; exact h.ll, fun c' hc' => ?_, fun z hz => ?_⟩
  · rw [setL_getI, setL_getI, h.lf, h.ll]
    by_cases ec : c' = c
    · rw [if_pos ⟨ec, hc⟩, if_pos ⟨ec, hc⟩]
      subst ec
      exact .inr ⟨a, a, rfl, rfl, Nat.le_refl _, by omega, hk, hk, f2, fun z hz hz2 => by omega⟩
    · rw [if_neg (fun h => ec h.1), if_neg (fun h => ec h.1)]
      rcases h.F c' hc' with ⟨h1, h2⟩ | ⟨f, g, h1, h2, h3, h4, h5, h6, h7, h8⟩
      · refine .inl ⟨h1, fun z hz => ?_⟩
        by_cases e : z = a
        · subst e; omega
        · exact h2 z (by omega)
      · refine .inr ⟨f, g, h1, h2, h3, by omega, h5, h6, h7, fun z hz hz2 => ?_⟩
        by_cases e : z = a
        · subst e; omega
        · exact h8 z hz (by omega)
  · by_cases e : z = a
    · subst e
      refine .inr ⟨c, hc, hk, .inr ⟨fun w hw hw2 => by omega, ?_⟩⟩
      rw [setL_getI, h.lf, if_pos ⟨rfl, hc⟩]
      exact e2
    · rw [e1 z (by omega)]
      rcases h.O z (by omega) with h1 | ⟨c', h1, h2, ⟨y, y1, y2, y3, y4, y5⟩ | ⟨h3, h4⟩⟩
      · exact .inl h1
      · exact .inr ⟨c', h1, h2, .inl ⟨y, y1, by omega, y3, y4, y5⟩⟩
      · have ec : c' ≠ c := by rintro rfl; exact f2 z (by omega) h2
        refine .inr ⟨c', h1, h2, .inr ⟨fun w hw hw2 => ?_, ?_⟩⟩
        · by_cases e : w = a
          · subst e; omega
          · exact h3 w hw (by omega)
        · rw [setL_getI, if_neg (fun h => ec h.1)]
          exact h4
theorem inv_more {k : Nat → Int} {V n a c g : Nat} {fi la : List Int} {O O' : Nat → Int} (h : PInv k V n a fi la O) (hc : c < V) (hk : k a = c) (hf : ¬ fi.getD c 0 < 0) (hg : la.getD c 0 = g) (e1 : ∀ z, z < a → z ≠ g → O' z = O z) (e2 : O' g = a) (e3 : O' a = fi.getD c 0) : PInv k V n (a + 1) fi (setL la c (a : Int)) O' := by
  obtain ⟨f, f1, f3, f4, f5, f6, f7, f8⟩ : ∃ f : Nat, fi.getD c 0 = f ∧ f ≤ g ∧ g < a ∧ k f = c ∧ k g = c ∧ (∀ z, z < f → k z ≠ c) ∧ ∀ z, g < z → z < a → k z ≠ c := by
    rcases h.F c hc with h1 | ⟨f, g', h1, h2, h3⟩
    · omega
    · obtain rfl : g' = g := by omega
      exact ⟨f, h1, h3⟩
  refine ⟨h.lf, by rw [setL_length]; exact h.ll, fun c' hc' => ?_, fun z hz => ?_⟩
  · rw [setL_getI, h.ll]
    by_cases ec : c' = c
    · rw [if_pos ⟨ec, hc⟩]
      subst ec
      exact .inr ⟨f, a, f1, rfl, by omega, by omega, f5, hk, f7, fun z hz hz2 => by omega⟩
    · rw [if_neg (fun h => ec h.1)]
      rcases h.F c' hc' with ⟨h1, h2⟩ | ⟨f, g, h1, h2, h3, h4, h5, h6, h7, h8⟩
      · refine .inl ⟨h1, fun z hz => ?_⟩
        by_cases e : z = a
        · subst e; omega
        · exact h2 z (by omega)
      · refine .inr ⟨f, g, h1, h2, h3, by omega, h5, h6, h7, fun z hz hz2 => ?_⟩
        by_cases e : z = a
        · subst e; omega
        · exact h8 z hz (by omega)
  · by_cases e : z = a
    · subst e
      exact .inr ⟨c, hc, hk, .inr ⟨fun w hw hw2 => by omega, e3⟩⟩
    · by_cases eg : z = g
      · subst eg
        exact .inr ⟨c, hc, f6, .inl ⟨a, f4, by omega, hk, f8, e2⟩⟩
      · rw [e1 z (by omega) eg]
        rcases h.O z (by omega) with h1 | ⟨c', h1, h2, ⟨y, y1, y2, y3, y4, y5⟩ | ⟨h3, h4⟩⟩
        · exact .inl h1
        · exact .inr ⟨c', h1, h2, .inl ⟨y, y1, by omega, y3, y4, y5⟩⟩
        · have ec : c' ≠ c := by
            rintro rfl
            by_cases hzg : z < g
            · exact h3 g hzg f4 f6
            · exact f8 z (by omega) (by omega) h2
          refine .inr ⟨c', h1, h2, .inr ⟨fun w hw hw2 => ?_, h4⟩⟩
          by_cases e : w = a
          · subst e; omega
          · exact h3 w hw (by omega)
theorem inv_end {k : Nat → Int} {V n M : Nat} {fi la : List Int} {O : Nat → Int} (h : PInv k V n M fi la O) {z : Nat} (hz : z < M) : ∃ y : Nat, O z = y ∧ Follows k M z y := by
  rcases h.O z hz with ⟨h1, h2⟩ | ⟨c, h1, h2, ⟨y, y1, y2, y3, y4, y5⟩ | ⟨h3, h4⟩⟩
  · exact ⟨z, h2, .inl ⟨h1, rfl⟩⟩
  · refine ⟨y, y5, .inr ⟨by omega, y - z, by omega, by omega, ?_, by omega, fun e he1 he2 => ?_⟩⟩
    · rw [show z + (y - z) = y by omega, Nat.mod_eq_of_lt y2]
    · rw [Nat.mod_eq_of_lt (by omega), h2]
      exact y4 _ (by omega) (by omega)
  · rcases h.F c h1 with ⟨f1, f2⟩ | ⟨f, g, f1, f2, f3, f4, f5, f6, f7, f8⟩
    · exact absurd h2 (f2 z hz)
    · have hfz : f ≤ z := by
        by_cases hlt : z < f
        · exact absurd h2 (f7 z hlt)
        · omega
      refine ⟨f, h4.trans f1, .inr ⟨by omega, M - (z - f), by omega, by omega, ?_, by omega, fun e he1 he2 => ?_⟩⟩
      · rw [show z + (M - (z - f)) = M + f by omega, Nat.add_mod_left, Nat.mod_eq_of_lt (by omega)]
      · rw [h2]
        by_cases hM : z + e < M
        · rw [Nat.mod_eq_of_lt hM]
          exact h3 _ (by omega) hM
        · rw [show z + e = M + (z + e - M) by omega, Nat.add_mod_left, Nat.mod_eq_of_lt (by omega)]
          exact f7 _ (by omega)
def varC (rows : List Row) (n z : Nat) : Int := if rows.length ≤ z % n then -1 else rw3 (rows.getD (z % n) zrow) (z / n)
def kC (cl : List Int) (rows : List Row) (n z : Nat) : Int := if varC rows n z < 0 then -1 else cl.getD (varC rows n z).toNat 0
end Go.Proofs.Ytgimohchocjgcaa.V
