import Derived.Test.YtgimohchocjgcaaVPC2
set_option linter.unusedVariables false
set_option linter.unusedSimpArgs false
namespace Go.Proofs.Ytgimohchocjgcaa.V
theorem neg_zero {x : Fr} (hx : Sc x) : fv (fadd x (frN ((RR - fv x) % RR))) = 0 := by
  unfold Sc at hx
  unfold fadd
  rw [fv_mod, fv_mod, Nat.add_mod_mod, show fv x + (RR - fv x) = RR by omega, Nat.mod_self]
section
variable {N : Nat} [Big N]
def cw (a : Fr) : List Fr := [a, a]
def cs0 : List Fr := [⟨2, 0, 0, 0⟩, ⟨20, 0, 0, 0⟩]
def cs1 : List Fr := [⟨3, 0, 0, 0⟩, ⟨21, 0, 0, 0⟩]
def cs2 : List Fr := [⟨4, 0, 0, 0⟩, ⟨22, 0, 0, 0⟩]
theorem chance {a b g : Fr} (ha : Sc a) (hb : Sc b) (hg : Sc g) {p : Nat} (hp : p < 2) (hz : fv (rowU (cw a) (cw a) (cw a) cs0 cs1 cs2 b g p) = 0) : q91 N 1 (cw a) (cw a) (cw a) cs0 cs1 cs2 b g = perr 15 := by
  rcases q91_eq (N := N) (L := 1) (nn := 2) (w0 := cw a) (w1 := cw a) (w2 := cw a) (s0 := cs0) (s1 := cs1) (s2 := cs2) (b := b) (g := g) (by omega) (by omega) rfl (two_sc ha ha) (two_sc ha ha) (two_sc ha ha) hb hg with ⟨x, e⟩ | ⟨x, _, e⟩ | ⟨x, hn, _⟩
  · exact absurd ⟨⟨rfl, rfl⟩, ⟨rfl, rfl⟩, ⟨rfl, rfl⟩⟩ x
  · exact e
  · exact absurd hz (hn p hp)
theorem sc_low (x : UInt64) : Sc ⟨x, 0, 0, 0⟩ := by
  unfold Sc
  rw [fv_small]
  exact Nat.lt_of_lt_of_le x.toNat_lt (by decide)
theorem fr_eta2 (x : Fr) : Fr.mk x.a0 x.a1 x.a2 x.a3 = x := rfl
theorem end19_0 {a b : Fr} (ha : Sc a) (hb : Sc b) (n : Nat) (at2 : UInt8) (h : UInt8.toNat (at2 % 6) = 0) : m19_7 N (n + 1) at2 3 a b (cw a) (cw a) (cw a) cs0 cs1 cs2 = some (true, ()) := by
  have hB : 2000 ≤ N := Big.h
  have hN : 10 < N := by omega
  rw [m19_7_succ]
  unfold c19_7
  rw [ltI_false (by omega), cond_false, h, show eqI (wr (Int.tdiv ((0 : Nat) : Int) 2)) ((0 : Nat) : Int) = true from by decide, cond_true]
  rw [show (leI 0 (Int.tmod ((0 : Nat) : Int) 2) && ltI (Int.tmod ((0 : Nat) : Int) 2) (List.length cs0 : Int)) = true from by decide, mst2]
  rw [show Int.toNat (Int.tmod ((0 : Nat) : Int) 2) = 0 from by decide, fr_eta2, show List.getD cs0 0 Fr.zero = ⟨2, 0, 0, 0⟩ from rfl, mulR hN (sc_low _)]
  simp only [bsm]
  rw [addR hN ha (sc_mul _ _)]
  simp only [bsm]
  rw [q85_eq hN (sc_add _ _)]
  simp only [bsm]
  rw [chance (g := frN ((RR - fv (fadd a (fmul b ⟨2, 0, 0, 0⟩))) % RR)) (p := 0) ha hb (sc_mod _) (by omega) ((rowU_zero _).2 (.inl (.inl (neg_zero (sc_add _ _)))))]
  unfold perr
  simp only [bsm]
  rw [eqI_true rfl, cond_true, show eqI (([] : List Fr).length : Int) 0 = true from rfl, cond_true]
  exact congrArg (fun x => some (x, ())) (eqF_self Fr.zero)
theorem end19_1 {a b : Fr} (ha : Sc a) (hb : Sc b) (n : Nat) (at2 : UInt8) (h : UInt8.toNat (at2 % 6) = 1) : m19_7 N (n + 1) at2 3 a b (cw a) (cw a) (cw a) cs0 cs1 cs2 = some (true, ()) := by
  have hB : 2000 ≤ N := Big.h
  have hN : 10 < N := by omega
  rw [m19_7_succ]
  unfold c19_7
  rw [ltI_false (by omega), cond_false, h, show eqI (wr (Int.tdiv ((1 : Nat) : Int) 2)) ((0 : Nat) : Int) = true from by decide, cond_true]
  rw [show (leI 0 (Int.tmod ((1 : Nat) : Int) 2) && ltI (Int.tmod ((1 : Nat) : Int) 2) (List.length cs0 : Int)) = true from by decide, mst2]
  rw [show Int.toNat (Int.tmod ((1 : Nat) : Int) 2) = 1 from by decide, fr_eta2, show List.getD cs0 1 Fr.zero = ⟨20, 0, 0, 0⟩ from rfl, mulR hN (sc_low _)]
  simp only [bsm]
  rw [addR hN ha (sc_mul _ _)]
  simp only [bsm]
  rw [q85_eq hN (sc_add _ _)]
  simp only [bsm]
  rw [chance (g := frN ((RR - fv (fadd a (fmul b ⟨20, 0, 0, 0⟩))) % RR)) (p := 1) ha hb (sc_mod _) (by omega) ((rowU_zero _).2 (.inl (.inl (neg_zero (sc_add _ _)))))]
  unfold perr
  simp only [bsm]
  rw [eqI_true rfl, cond_true, show eqI (([] : List Fr).length : Int) 0 = true from rfl, cond_true]
  exact congrArg (fun x => some (x, ())) (eqF_self Fr.zero)
theorem end19_2 {a b : Fr} (ha : Sc a) (hb : Sc b) (n : Nat) (at2 : UInt8) (h : UInt8.toNat (at2 % 6) = 2) : m19_7 N (n + 1) at2 3 a b (cw a) (cw a) (cw a) cs0 cs1 cs2 = some (true, ()) := by
  have hB : 2000 ≤ N := Big.h
  have hN : 10 < N := by omega
  rw [m19_7_succ]
  unfold c19_7
  rw [ltI_false (by omega), cond_false, h, show eqI (wr (Int.tdiv ((2 : Nat) : Int) 2)) ((0 : Nat) : Int) = false from by decide, cond_false, show eqI (wr (Int.tdiv ((2 : Nat) : Int) 2)) (((0 : Nat) + (1 : Nat) : Nat) : Int) = true from by decide, cond_true]
  rw [show (leI 0 (Int.tmod ((2 : Nat) : Int) 2) && ltI (Int.tmod ((2 : Nat) : Int) 2) (List.length cs1 : Int)) = true from by decide, mst2]
  rw [show Int.toNat (Int.tmod ((2 : Nat) : Int) 2) = 0 from by decide, fr_eta2, show List.getD cs1 0 Fr.zero = ⟨3, 0, 0, 0⟩ from rfl, mulR hN (sc_low _)]
  simp only [bsm]
  rw [addR hN ha (sc_mul _ _)]
  simp only [bsm]
  rw [q85_eq hN (sc_add _ _)]
  simp only [bsm]
  rw [chance (g := frN ((RR - fv (fadd a (fmul b ⟨3, 0, 0, 0⟩))) % RR)) (p := 0) ha hb (sc_mod _) (by omega) ((rowU_zero _).2 (.inl (.inr (neg_zero (sc_add _ _)))))]
  unfold perr
  simp only [bsm]
  rw [eqI_true rfl, cond_true, show eqI (([] : List Fr).length : Int) 0 = true from rfl, cond_true]
  exact congrArg (fun x => some (x, ())) (eqF_self Fr.zero)
theorem end19_3 {a b : Fr} (ha : Sc a) (hb : Sc b) (n : Nat) (at2 : UInt8) (h : UInt8.toNat (at2 % 6) = 3) : m19_7 N (n + 1) at2 3 a b (cw a) (cw a) (cw a) cs0 cs1 cs2 = some (true, ()) := by
  have hB : 2000 ≤ N := Big.h
  have hN : 10 < N := by omega
  rw [m19_7_succ]
  unfold c19_7
  rw [ltI_false (by omega), cond_false, h, show eqI (wr (Int.tdiv ((3 : Nat) : Int) 2)) ((0 : Nat) : Int) = false from by decide, cond_false, show eqI (wr (Int.tdiv ((3 : Nat) : Int) 2)) (((0 : Nat) + (1 : Nat) : Nat) : Int) = true from by decide, cond_true]
  rw [show (leI 0 (Int.tmod ((3 : Nat) : Int) 2) && ltI (Int.tmod ((3 : Nat) : Int) 2) (List.length cs1 : Int)) = true from by decide, mst2]
  rw [show Int.toNat (Int.tmod ((3 : Nat) : Int) 2) = 1 from by decide, fr_eta2, show List.getD cs1 1 Fr.zero = ⟨21, 0, 0, 0⟩ from rfl, mulR hN (sc_low _)]
  simp only [bsm]
  rw [addR hN ha (sc_mul _ _)]
  simp only [bsm]
  rw [q85_eq hN (sc_add _ _)]
  simp only [bsm]
  rw [chance (g := frN ((RR - fv (fadd a (fmul b ⟨21, 0, 0, 0⟩))) % RR)) (p := 1) ha hb (sc_mod _) (by omega) ((rowU_zero _).2 (.inl (.inr (neg_zero (sc_add _ _)))))]
  unfold perr
  simp only [bsm]
  rw [eqI_true rfl, cond_true, show eqI (([] : List Fr).length : Int) 0 = true from rfl, cond_true]
  exact congrArg (fun x => some (x, ())) (eqF_self Fr.zero)
theorem end19_4 {a b : Fr} (ha : Sc a) (hb : Sc b) (n : Nat) (at2 : UInt8) (h : UInt8.toNat (at2 % 6) = 4) : m19_7 N (n + 1) at2 3 a b (cw a) (cw a) (cw a) cs0 cs1 cs2 = some (true, ()) := by
  have hB : 2000 ≤ N := Big.h
  have hN : 10 < N := by omega
  rw [m19_7_succ]
  unfold c19_7
  rw [ltI_false (by omega), cond_false, h, show eqI (wr (Int.tdiv ((4 : Nat) : Int) 2)) ((0 : Nat) : Int) = false from by decide, cond_false, show eqI (wr (Int.tdiv ((4 : Nat) : Int) 2)) (((0 : Nat) + (1 : Nat) : Nat) : Int) = false from by decide, cond_false, show eqI (wr (Int.tdiv ((4 : Nat) : Int) 2)) (((0 : Nat) + (1 : Nat) + (1 : Nat) : Nat) : Int) = true from by decide, mst2]
  rw [show (leI 0 (Int.tmod ((4 : Nat) : Int) 2) && ltI (Int.tmod ((4 : Nat) : Int) 2) (List.length cs2 : Int)) = true from by decide, mst2]
  rw [show Int.toNat (Int.tmod ((4 : Nat) : Int) 2) = 0 from by decide, fr_eta2, show List.getD cs2 0 Fr.zero = ⟨4, 0, 0, 0⟩ from rfl, mulR hN (sc_low _)]
  simp only [bsm]
  rw [addR hN ha (sc_mul _ _)]
  simp only [bsm]
  rw [q85_eq hN (sc_add _ _)]
  simp only [bsm]
  rw [chance (g := frN ((RR - fv (fadd a (fmul b ⟨4, 0, 0, 0⟩))) % RR)) (p := 0) ha hb (sc_mod _) (by omega) ((rowU_zero _).2 (.inr (neg_zero (sc_add _ _))))]
  unfold perr
  simp only [bsm]
  rw [eqI_true rfl, cond_true, show eqI (([] : List Fr).length : Int) 0 = true from rfl, cond_true]
  exact congrArg (fun x => some (x, ())) (eqF_self Fr.zero)
theorem end19_5 {a b : Fr} (ha : Sc a) (hb : Sc b) (n : Nat) (at2 : UInt8) (h : UInt8.toNat (at2 % 6) = 5) : m19_7 N (n + 1) at2 3 a b (cw a) (cw a) (cw a) cs0 cs1 cs2 = some (true, ()) := by
  have hB : 2000 ≤ N := Big.h
  have hN : 10 < N := by omega
  rw [m19_7_succ]
  unfold c19_7
  rw [ltI_false (by omega), cond_false, h, show eqI (wr (Int.tdiv ((5 : Nat) : Int) 2)) ((0 : Nat) : Int) = false from by decide, cond_false, show eqI (wr (Int.tdiv ((5 : Nat) : Int) 2)) (((0 : Nat) + (1 : Nat) : Nat) : Int) = false from by decide, cond_false, show eqI (wr (Int.tdiv ((5 : Nat) : Int) 2)) (((0 : Nat) + (1 : Nat) + (1 : Nat) : Nat) : Int) = true from by decide, mst2]
  rw [show (leI 0 (Int.tmod ((5 : Nat) : Int) 2) && ltI (Int.tmod ((5 : Nat) : Int) 2) (List.length cs2 : Int)) = true from by decide, mst2]
  rw [show Int.toNat (Int.tmod ((5 : Nat) : Int) 2) = 1 from by decide, fr_eta2, show List.getD cs2 1 Fr.zero = ⟨22, 0, 0, 0⟩ from rfl, mulR hN (sc_low _)]
  simp only [bsm]
  rw [addR hN ha (sc_mul _ _)]
  simp only [bsm]
  rw [q85_eq hN (sc_add _ _)]
  simp only [bsm]
  rw [chance (g := frN ((RR - fv (fadd a (fmul b ⟨22, 0, 0, 0⟩))) % RR)) (p := 1) ha hb (sc_mod _) (by omega) ((rowU_zero _).2 (.inr (neg_zero (sc_add _ _))))]
  unfold perr
  simp only [bsm]
  rw [eqI_true rfl, cond_true, show eqI (([] : List Fr).length : Int) 0 = true from rfl, cond_true]
  exact congrArg (fun x => some (x, ())) (eqF_self Fr.zero)
theorem s19_0 {M : Nat} {a b : Fr} (n : Nat) (at2 : UInt8) : m19_7 M (n + 1) at2 0 a b [] [] [] [] [] [] = m19_7 M n at2 1 a b (cw a) [] [] cs0 [] [] := by
  rw [m19_7_succ]
  unfold c19_7
  rw [ltI_true (by omega), cond_true, show eqI (0 : Int) ((0 : Nat) : Int) = true from by decide, cond_true, mst2, cond_true]
  rw [show wr (((0 : Nat) : Int) + 1) = 1 from by decide, show u64I (wr ((0 : Int) + 2)) = 2 from by decide +kernel, show u64I (wr ((0 : Int) + 20)) = 20 from by decide +kernel]
  rfl
theorem s19_1 {M : Nat} {a b : Fr} (n : Nat) (at2 : UInt8) : m19_7 M (n + 1) at2 1 a b (cw a) [] [] cs0 [] [] = m19_7 M n at2 2 a b (cw a) (cw a) [] cs0 cs1 [] := by
  rw [m19_7_succ]
  unfold c19_7
  rw [ltI_true (by omega), cond_true, show eqI (1 : Int) ((0 : Nat) : Int) = false from by decide, cond_false, show eqI (1 : Int) (((0 : Nat) + (1 : Nat) : Nat) : Int) = true from by decide, cond_true, mst2, cond_false, cond_true]
  rw [show wr ((((0 : Nat) + (1 : Nat) : Nat) : Int) + 1) = 2 from by decide, show u64I (wr ((1 : Int) + 2)) = 3 from by decide +kernel, show u64I (wr ((1 : Int) + 20)) = 21 from by decide +kernel]
  rfl
theorem s19_2 {M : Nat} {a b : Fr} (n : Nat) (at2 : UInt8) : m19_7 M (n + 1) at2 2 a b (cw a) (cw a) [] cs0 cs1 [] = m19_7 M n at2 3 a b (cw a) (cw a) (cw a) cs0 cs1 cs2 := by
  rw [m19_7_succ]
  unfold c19_7
  rw [ltI_true (by omega), cond_true, show eqI (2 : Int) ((0 : Nat) : Int) = false from by decide, cond_false, show eqI (2 : Int) (((0 : Nat) + (1 : Nat) : Nat) : Int) = false from by decide, cond_false, show eqI (2 : Int) (((0 : Nat) + (1 : Nat) + (1 : Nat) : Nat) : Int) = true from by decide, mst2, mst2, cond_false, cond_false, mst2]
  rw [show wr ((((0 : Nat) + (1 : Nat) + (1 : Nat) : Nat) : Int) + 1) = 3 from by decide, show u64I (wr ((2 : Int) + 2)) = 4 from by decide +kernel, show u64I (wr ((2 : Int) + 20)) = 22 from by decide +kernel]
  rfl
theorem perm_chance_plain (a b : Fr) (at2 : UInt8) : q19 N a b at2 = some (true, ()) := by
  have hB : 2000 ≤ N := Big.h
  have hN : 10 < N := by omega
  obtain ⟨F, hF⟩ : ∃ F, N = F + 4 := ⟨N - 4, by omega⟩
  unfold q19
  rw [pbegun]
  simp only [bsm]
  rw [Bool.not_true, cond_false, q69_eq hN]
  simp only [bsm]
  by_cases ha : fv a < RR
  case neg => rw [decide_eq_false ha, Bool.not_false, cond_true]
  rw [decide_eq_true ha, Bool.not_true, cond_false, q69_eq hN]
  simp only [bsm]
  by_cases hb : fv b < RR
  case neg => rw [decide_eq_false hb, Bool.not_false, cond_true]
  rw [decide_eq_true hb, Bool.not_true, cond_false]
  refine (congrArg (fun k => m19_7 N k at2 0 a b [] [] [] [] [] []) hF).trans ?_
  rw [s19_0, s19_1, s19_2]
  have hm : UInt8.toNat (at2 % 6) < 6 := by
    rw [UInt8.toNat_mod]
    exact Nat.mod_lt _ (by decide)
  rcases (by omega : UInt8.toNat (at2 % 6) = 0 ∨ UInt8.toNat (at2 % 6) = 1 ∨ UInt8.toNat (at2 % 6) = 2 ∨ UInt8.toNat (at2 % 6) = 3 ∨ UInt8.toNat (at2 % 6) = 4 ∨ UInt8.toNat (at2 % 6) = 5) with h | h | h | h | h | h
  · exact end19_0 ha hb F at2 h
  · exact end19_1 ha hb F at2 h
  · exact end19_2 ha hb F at2 h
  · exact end19_3 ha hb F at2 h
  · exact end19_4 ha hb F at2 h
  · exact end19_5 ha hb F at2 h
end
end Go.Proofs.Ytgimohchocjgcaa.V
