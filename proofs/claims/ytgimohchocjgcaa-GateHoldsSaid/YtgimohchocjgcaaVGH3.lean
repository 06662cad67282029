import Derived.Test.YtgimohchocjgcaaVGH2
import Derived.Test.YtgimohchocjgcaaVOS
import Derived.KernelRfl
set_option linter.unusedVariables false
set_option linter.unusedSimpArgs false
namespace Go.Proofs.Ytgimohchocjgcaa.V
set_option maxRecDepth 100000 in
theorem r108_0 (a b c d e : Fr) : q108 2000 (Stp.mk (wr ((2 : Int) + ((0 : Nat) : Int))) 0 1 2 a b c d e) = some ([Row.mk a b c d e Fr.zero Fr.zero Fr.zero 0 1 2], 0, ()) := by kernel_rfl
set_option maxRecDepth 100000 in
theorem r108_1 (a b c d e : Fr) : q108 2000 (Stp.mk (wr ((2 : Int) + ((1 : Nat) : Int))) 0 1 2 a b c d e) = some ([Row.mk Fr.zero Fr.zero Fr.zero Fr.zero Fr.zero ⟨1, 0, 0, 0⟩ Fr.zero Fr.zero 0 (-1) (-1)], 0, ()) := by kernel_rfl
set_option maxRecDepth 100000 in
theorem r108_2 (a b c d e : Fr) : q108 2000 (Stp.mk (wr ((2 : Int) + ((2 : Nat) : Int))) 0 1 2 a b c d e) = some ([Row.mk Fr.zero Fr.zero Fr.zero Fr.zero Fr.zero Fr.zero ⟨1, 0, 0, 0⟩ Fr.zero 0 (-1) 2], 0, ()) := by kernel_rfl
set_option maxRecDepth 100000 in
theorem r108_3 (a b c d e : Fr) : q108 2000 (Stp.mk (wr ((2 : Int) + ((3 : Nat) : Int))) 0 1 2 a b c d e) = some ([Row.mk Fr.zero Fr.zero Fr.zero Fr.zero Fr.zero Fr.zero Fr.zero ⟨1, 0, 0, 0⟩ 0 1 (-1), Row.mk Fr.zero Fr.zero Fr.zero Fr.zero Fr.zero Fr.zero Fr.zero Fr.zero 2 (-1) (-1)], 0, ()) := by kernel_rfl
theorem fv1 : fv ⟨1, 0, 0, 0⟩ = 1 := by decide +kernel
theorem gval_cg (q0 q1 q2 q3 q4 q5 q6 q7 a b c nx : Fr) : Cg (fv (gval [q0, q1, q2, q3, q4, q5, q6, q7] a b c nx))
    (fv q0 * fv (fmul a b) + (fv q1 * fv a + (fv q2 * fv b + (fv q3 * fv c + (fv q4 * fv ⟨1, 0, 0, 0⟩ + (fv q5 * fv (fsub (fmul a a) a) + (fv q6 * fv (fsub (fmul (fmul (fmul a a) (fmul a a)) a) c) + fv q7 * fv (fsub (fadd a b) nx)))))))) := by
  have h := vsum_cg [q0, q1, q2, q3, q4, q5, q6, q7] (wl a b c nx) 8 0 Fr.zero
  rw [fvz] at h
  refine h.trans (Cg.of_eq ?_)
  simp only [nsum, wl, List.getD_cons_zero, List.getD_cons_succ]
  omega
theorem sub_zero_iff {x y : Fr} (hx : Sc x) (hy : Sc y) : fsub x y = Fr.zero ↔ x = y := by
  have hx' : fv x < RR := hx
  have hy' : fv y < RR := hy
  constructor
  · intro h
    have h1 := fv_sub x y
    rw [h, fvz] at h1
    refine sc_eq hx hy ?_
    have h2 : Cg (0 + fv y) (fv x + (RR - fv y) + fv y) := h1.add Cg.rfl'
    rw [show fv x + (RR - fv y) + fv y = fv x + RR by omega, Nat.zero_add] at h2
    refine (h2.trans ?_).symm
    show (fv x + RR) % RR = fv x % RR
    exact Nat.add_mod_right _ _
  · intro h
    subst h
    refine sc_eq (sc_sub _ _) sc_zero ?_
    refine (fv_sub x x).trans ?_
    rw [show fv x + (RR - fv x) = RR by omega, fvz]
    show RR % RR = 0 % RR
    rw [Nat.mod_self, Nat.zero_mod]
theorem eqF_of_iff {x y z w : Fr} (h : x = y ↔ z = w) : eqF x y = eqF z w := by
  unfold eqF
  exact decide_eq_decide.2 h
theorem fr0 : (Fr.mk (0 : UInt64) 0 0 0) = Fr.zero := rfl
theorem beq_self_b (b : Bool) : (b == b) = true := by cases b <;> rfl
theorem gval_5 {a b c nx : Fr} : gval [Fr.zero, Fr.zero, Fr.zero, Fr.zero, Fr.zero, ⟨1, 0, 0, 0⟩, Fr.zero, Fr.zero] a b c nx = fsub (fmul a a) a := by
  refine sc_eq (gval_sc _ _ _ _ _) (sc_sub _ _) ((gval_cg _ _ _ _ _ _ _ _ _ _ _ _).trans (Cg.of_eq ?_))
  rw [fvz, fv1]; simp
theorem gval_6 {a b c nx : Fr} : gval [Fr.zero, Fr.zero, Fr.zero, Fr.zero, Fr.zero, Fr.zero, ⟨1, 0, 0, 0⟩, Fr.zero] a b c nx = fsub (fmul (fmul (fmul a a) (fmul a a)) a) c := by
  refine sc_eq (gval_sc _ _ _ _ _) (sc_sub _ _) ((gval_cg _ _ _ _ _ _ _ _ _ _ _ _).trans (Cg.of_eq ?_))
  rw [fvz, fv1]; simp
theorem gval_7 {a b c nx : Fr} : gval [Fr.zero, Fr.zero, Fr.zero, Fr.zero, Fr.zero, Fr.zero, Fr.zero, ⟨1, 0, 0, 0⟩] a b c nx = fsub (fadd a b) nx := by
  refine sc_eq (gval_sc _ _ _ _ _) (sc_sub _ _) ((gval_cg _ _ _ _ _ _ _ _ _ _ _ _).trans (Cg.of_eq ?_))
  rw [fvz, fv1]; simp
def asum (k0 k1 k2 k3 k4 a b c : Fr) : Fr := fadd (fadd (fmul k0 (fmul a b)) (fmul k1 a)) (fadd (fadd (fmul k2 b) (fmul k3 c)) k4)
theorem asum_cg (k0 k1 k2 k3 k4 a b c : Fr) : Cg (fv (asum k0 k1 k2 k3 k4 a b c)) (fv k0 * fv (fmul a b) + fv k1 * fv a + (fv k2 * fv b + fv k3 * fv c + fv k4)) := by
  unfold asum
  refine (fv_add _ _).trans (Cg.add ((fv_add _ _).trans (Cg.add (fv_mul _ _) (fv_mul _ _))) ((fv_add _ _).trans (Cg.add ((fv_add _ _).trans (Cg.add (fv_mul _ _) (fv_mul _ _))) Cg.rfl')))
theorem sc_asum (k0 k1 k2 k3 k4 a b c : Fr) : Sc (asum k0 k1 k2 k3 k4 a b c) := sc_add _ _
theorem gval_a {k0 k1 k2 k3 k4 a b c nx : Fr} : gval [k0, k1, k2, k3, k4, Fr.zero, Fr.zero, Fr.zero] a b c nx = asum k0 k1 k2 k3 k4 a b c := by
  refine sc_eq (gval_sc _ _ _ _ _) (sc_add _ _) ((gval_cg _ _ _ _ _ _ _ _ _ _ _ _).trans (Cg.trans (Cg.of_eq ?_) (asum_cg _ _ _ _ _ _ _ _).symm))
  rw [fvz, fv1]; simp only [Nat.zero_mul, Nat.mul_one, Nat.add_zero]; omega
theorem gval_af {k0 k1 k2 k3 k4 a b c nx : Fr} : gval [k0, k1, k2, k3, fsub k4 (asum k0 k1 k2 k3 k4 a b c), Fr.zero, Fr.zero, Fr.zero] a b c nx = Fr.zero := by
  have hs : fv (asum k0 k1 k2 k3 k4 a b c) < RR := sc_add _ _
  rw [gval_a]
  refine sc_eq (sc_add _ _) sc_zero ((asum_cg _ _ _ _ _ _ _ _).trans ?_)
  have h1 : Cg (fv k0 * fv (fmul a b) + fv k1 * fv a + (fv k2 * fv b + fv k3 * fv c + fv (fsub k4 (asum k0 k1 k2 k3 k4 a b c))))
      (fv k0 * fv (fmul a b) + fv k1 * fv a + (fv k2 * fv b + fv k3 * fv c + (fv k4 + (RR - fv (asum k0 k1 k2 k3 k4 a b c))))) := Cg.add Cg.rfl' (Cg.add Cg.rfl' (fv_sub _ _))
  refine h1.trans ?_
  have h2 : Cg ((fv k0 * fv (fmul a b) + fv k1 * fv a + (fv k2 * fv b + fv k3 * fv c + fv k4)) + (RR - fv (asum k0 k1 k2 k3 k4 a b c))) (fv (asum k0 k1 k2 k3 k4 a b c) + (RR - fv (asum k0 k1 k2 k3 k4 a b c))) := Cg.add (asum_cg _ _ _ _ _ _ _ _).symm Cg.rfl'
  rw [show fv (asum k0 k1 k2 k3 k4 a b c) + (RR - fv (asum k0 k1 k2 k3 k4 a b c)) = RR by omega] at h2
  refine Cg.trans (Cg.of_eq (by omega)) (h2.trans ?_)
  rw [fvz]
  show RR % RR = 0 % RR
  rw [Nat.mod_self, Nat.zero_mod]
theorem sq_iff {a : Fr} (ha : Sc a) : fmul a a = a ↔ a = Fr.zero ∨ a = ⟨1, 0, 0, 0⟩ := by
  constructor
  · intro h
    by_cases h0 : fv a = 0
    · left; exact sc_eq ha sc_zero (Cg.of_eq (by rw [h0, fvz]))
    · right
      refine sc_eq ha sc_one ?_
      rw [fv1]
      have h1 := fv_mul a a
      rw [h] at h1
      have hi := inv_mul (Nat.pos_of_ne_zero h0) ha
      have h2 : Cg (fv a * fv a * fv a ^ (RR - 2)) (fv a * fv a ^ (RR - 2)) := Cg.mul h1.symm Cg.rfl'
      rw [Nat.mul_assoc] at h2
      have h3 : Cg (fv a * (fv a * fv a ^ (RR - 2))) (fv a * 1) := Cg.mul Cg.rfl' hi
      rw [Nat.mul_one] at h3
      exact h3.symm.trans (h2.trans hi)
  · rintro (h | h)
    · subst h; refine sc_eq (sc_mul _ _) sc_zero ((fv_mul _ _).trans (Cg.of_eq (by rw [fvz])))
    · subst h; refine sc_eq (sc_mul _ _) sc_one ((fv_mul _ _).trans (Cg.of_eq (by rw [fv1])))
theorem sc_ones {q : List Fr} (h : ∀ x ∈ q, Sc x) (i : Nat) : Sc (q.getD i Fr.zero) := by
  rw [List.getD_eq_getElem?_getD]
  cases hi : q[i]? with
  | none => exact sc_zero
  | some x => exact h x (List.mem_of_getElem? hi)
def says (q : List Fr) (a b c nx : Fr) (want : Bool) : Option (Bool × Unit) := Option.bind (q106 2000 q a b c nx) fun r => some ((eqF r.1 (Fr.mk (0 : UInt64) 0 0 0) == want, ()))
theorem says_eq {q : List Fr} {a b c nx : Fr} {want : Bool} (hq : q.length = 8) (hs : ∀ x ∈ q, Sc x) (ha : Sc a) (hb : Sc b) (hc : Sc c) (hn : Sc nx) (hw : eqF (gval q a b c nx) Fr.zero = want) : says q a b c nx want = some (true, ()) := by
  unfold says
  rw [q106_eq (by omega) hq (sc_ones hs) ha hb hc hn]
  simp only [bsm]
  rw [fr0, hw, beq_self_b]
theorem leaf_eq (R : Row) (L : List Row) (a b c nx : Fr) (W : Bool) : (Option.bind (some ((R :: L), (0 : Int), ())) fun rr => cond (!eqI (Prod.fst (Prod.snd rr)) (0 : Int)) (some ((false, ()))) (cond ((eqI (↑(List.length (Prod.fst rr)) : Int) (0 : Int))) (some ((false, ()))) (must (ltI (0 : Int) (↑(List.length (Prod.fst rr)) : Int)) (Option.bind (q106 2000 ([(Row.q0 (List.getD (Prod.fst rr) (0 : Nat) zrow)), (Row.q1 (List.getD (Prod.fst rr) (0 : Nat) zrow)), (Row.q2 (List.getD (Prod.fst rr) (0 : Nat) zrow)), (Row.q3 (List.getD (Prod.fst rr) (0 : Nat) zrow)), (Row.q4 (List.getD (Prod.fst rr) (0 : Nat) zrow)), (Row.q5 (List.getD (Prod.fst rr) (0 : Nat) zrow)), (Row.q6 (List.getD (Prod.fst rr) (0 : Nat) zrow)), (Row.q7 (List.getD (Prod.fst rr) (0 : Nat) zrow))]) a b c nx) fun r => some (((eqF (Prod.fst r) (Fr.mk (0 : UInt64) 0 0 0)) == W, ())))))) = says [R.q0, R.q1, R.q2, R.q3, R.q4, R.q5, R.q6, R.q7] a b c nx W := by
  rw [Option.bind_some]
  simp only [List.getD_cons_zero]
  rw [show eqI (0 : Int) 0 = true from rfl, Bool.not_true, cond_false, show eqI (↑(List.length (R :: L)) : Int) 0 = false from by simp only [eqI, decide_eq_false_iff_not, List.length_cons]; omega, cond_false, ltI_true (by simp only [List.length_cons]; omega), mst]
  rfl
theorem sc_list {l : List Fr} (h : allSc l = true) : ∀ x ∈ l, Sc x := allSc_mem h
theorem mod2 (x : UInt64) : x % 2 = 0 ∨ x % 2 = 1 := by
  have h : (x % 2).toNat < 2 := by rw [UInt64.toNat_mod]; exact Nat.mod_lt _ (by decide)
  have : (x % 2).toNat = 0 ∨ (x % 2).toNat = 1 := by omega
  rcases this with h | h
  · left; exact UInt64.toNat_inj.1 h
  · right; exact UInt64.toNat_inj.1 h
theorem sc5 : ∀ x ∈ [Fr.zero, Fr.zero, Fr.zero, Fr.zero, Fr.zero, ⟨1, 0, 0, 0⟩, Fr.zero, Fr.zero], Sc x := sc_list (by decide +kernel)
theorem sc6 : ∀ x ∈ [Fr.zero, Fr.zero, Fr.zero, Fr.zero, Fr.zero, Fr.zero, ⟨1, 0, 0, 0⟩, Fr.zero], Sc x := sc_list (by decide +kernel)
theorem sc7 : ∀ x ∈ [Fr.zero, Fr.zero, Fr.zero, Fr.zero, Fr.zero, Fr.zero, Fr.zero, ⟨1, 0, 0, 0⟩], Sc x := sc_list (by decide +kernel)
theorem eqL00 : eqL El.u64 [(0 : UInt64), (0 : UInt64), (0 : UInt64), (0 : UInt64)] [(0 : UInt64), (0 : UInt64), (0 : UInt64), (0 : UInt64)] = true := rfl
theorem eqL10 : eqL El.u64 [(1 : UInt64), (0 : UInt64), (0 : UInt64), (0 : UInt64)] [(0 : UInt64), (0 : UInt64), (0 : UInt64), (0 : UInt64)] = false := rfl
theorem eqL11 : eqL El.u64 [(1 : UInt64), (0 : UInt64), (0 : UInt64), (0 : UInt64)] [(1 : UInt64), (0 : UInt64), (0 : UInt64), (0 : UInt64)] = true := rfl
set_option maxHeartbeats 1000000 in
set_option maxRecDepth 100000 in
theorem gate_holds_plain (kind : UInt8) (k : F5) (a b c : Fr) (fit : Bool) : q24 2000 kind k a b c fit = some (true, ()) := by
  unfold q24
  rw [gbegun]
  simp only [bsm, Bool.not_true, cond_false]
  rw [show List.take (Int.toNat ((↑(5 : Nat) : Int) - (0 : Int))) [k.k0, k.k1, k.k2, k.k3, k.k4] = [k.k0, k.k1, k.k2, k.k3, k.k4] from rfl, q90_eq (N := 2000) (l := [k.k0, k.k1, k.k2, k.k3, k.k4]) (by omega) (by simp) (by simp)]
  simp only [bsm]
  cases hk : allSc [k.k0, k.k1, k.k2, k.k3, k.k4] with
  | false => rfl
  | true =>
    rw [show (true && leI (([k.k0, k.k1, k.k2, k.k3, k.k4] : List Fr).length : Int) 5) = true from rfl, Bool.not_true, cond_false, q90_eq (N := 2000) (l := [a, b, c]) (by omega) (by simp) (by simp)]
    simp only [bsm]
    cases habc : allSc [a, b, c] with
    | false => rfl
    | true =>
      rw [show (true && leI (([a, b, c] : List Fr).length : Int) 3) = true from rfl, Bool.not_true, cond_false]
      have hk0 : Sc k.k0 := allSc_mem hk _ (by simp)
      have hk1 : Sc k.k1 := allSc_mem hk _ (by simp)
      have hk2 : Sc k.k2 := allSc_mem hk _ (by simp)
      have hk3 : Sc k.k3 := allSc_mem hk _ (by simp)
      have hk4 : Sc k.k4 := allSc_mem hk _ (by simp)
      have ha : Sc a := allSc_mem habc _ (by simp)
      have hb : Sc b := allSc_mem habc _ (by simp)
      have hc : Sc c := allSc_mem habc _ (by simp)
      have hm : UInt8.toNat (kind % 4) < 4 := by rw [UInt8.toNat_mod]; exact Nat.mod_lt _ (by decide)
      generalize UInt8.toNat (kind % 4) = m at hm ⊢
      have hm4 : m = 0 ∨ m = 1 ∨ m = 2 ∨ m = 3 := by omega
      rcases hm4 with rfl | rfl | rfl | rfl
      · rw [show eqI (wr ((2 : Int) + ((0 : Nat) : Int))) 2 = true from rfl, cond_true, mulR (by omega) hb]
        simp only [bsm]
        rw [mulR (by omega) (sc_mul _ _)]
        simp only [bsm]
        rw [mulR (by omega) ha]
        simp only [bsm]
        rw [addR (by omega) (sc_mul _ _) (sc_mul _ _)]
        simp only [bsm]
        rw [mulR (by omega) hb]
        simp only [bsm]
        rw [mulR (by omega) hc]
        simp only [bsm]
        rw [addR (by omega) (sc_mul _ _) (sc_mul _ _)]
        simp only [bsm]
        rw [addR (by omega) (sc_add _ _) hk4]
        simp only [bsm]
        rw [addR (by omega) (sc_add _ _) (sc_add _ _)]
        simp only [bsm]
        rw [show fadd (fadd (fmul k.k0 (fmul a b)) (fmul k.k1 a)) (fadd (fadd (fmul k.k2 b) (fmul k.k3 c)) k.k4) = asum k.k0 k.k1 k.k2 k.k3 k.k4 a b c from rfl]
        cases fit with
        | true =>
          rw [cond_true, subR (by omega) hk4 (sc_asum _ _ _ _ _ _ _ _)]
          simp only [bsm]
          rw [r108_0]
          rw [leaf_eq]
          refine says_eq (q := [k.k0, k.k1, k.k2, k.k3, fsub k.k4 (asum k.k0 k.k1 k.k2 k.k3 k.k4 a b c), Fr.zero, Fr.zero, Fr.zero]) (want := true) rfl ?_ ha hb hc hc ?_
          · intro x hx
            simp only [List.mem_cons, List.not_mem_nil, or_false] at hx
            rcases hx with h | h | h | h | h | h | h | h <;> rw [h]
            · exact hk0
            · exact hk1
            · exact hk2
            · exact hk3
            · exact sc_sub _ _
            · exact sc_zero
            · exact sc_zero
            · exact sc_zero
          · rw [gval_af, eqF_self]
        | false =>
          rw [cond_false, r108_0]
          rw [leaf_eq]
          refine says_eq (q := [k.k0, k.k1, k.k2, k.k3, k.k4, Fr.zero, Fr.zero, Fr.zero]) (want := eqF (asum k.k0 k.k1 k.k2 k.k3 k.k4 a b c) Fr.zero) rfl ?_ ha hb hc hc ?_
          · intro x hx
            simp only [List.mem_cons, List.not_mem_nil, or_false] at hx
            rcases hx with h | h | h | h | h | h | h | h <;> rw [h]
            · exact hk0
            · exact hk1
            · exact hk2
            · exact hk3
            · exact hk4
            · exact sc_zero
            · exact sc_zero
            · exact sc_zero
          · rw [gval_a]
      · rw [show eqI (wr ((2 : Int) + ((1 : Nat) : Int))) 2 = false from rfl, cond_false, show eqI (wr ((2 : Int) + ((1 : Nat) : Int))) 3 = true from rfl, cond_true]
        cases fit with
        | true =>
          rw [cond_true]
          rcases mod2 a.a0 with h | h
          · rw [h, eqL00, cond_true, r108_1]
            rw [leaf_eq]
            exact says_eq (q := [Fr.zero, Fr.zero, Fr.zero, Fr.zero, Fr.zero, ⟨1, 0, 0, 0⟩, Fr.zero, Fr.zero]) (a := Fr.zero) (want := true) rfl sc5 sc_zero hb hc hc (by
              rw [gval_5, (sub_zero_iff (sc_mul _ _) sc_zero).2 ((sq_iff sc_zero).2 (.inl rfl)), eqF_self])
          · rw [h, eqL10, cond_false, eqL11, r108_1]
            rw [leaf_eq]
            exact says_eq (q := [Fr.zero, Fr.zero, Fr.zero, Fr.zero, Fr.zero, ⟨1, 0, 0, 0⟩, Fr.zero, Fr.zero]) (a := ⟨1, 0, 0, 0⟩) (want := true) rfl sc5 sc_one hb hc hc (by
              rw [gval_5, (sub_zero_iff (sc_mul _ _) sc_one).2 ((sq_iff sc_one).2 (.inr rfl)), eqF_self])
        | false =>
          rw [cond_false, r108_1]
          by_cases h0 : a = Fr.zero
          · rw [show eqF a (Fr.mk 0 0 0 0) = true from decide_eq_true h0, cond_true]
            rw [leaf_eq]
            exact says_eq (q := [Fr.zero, Fr.zero, Fr.zero, Fr.zero, Fr.zero, ⟨1, 0, 0, 0⟩, Fr.zero, Fr.zero]) (want := true) rfl sc5 ha hb hc hc (by
              rw [gval_5, (sub_zero_iff (sc_mul _ _) ha).2 ((sq_iff ha).2 (.inl h0)), eqF_self])
          · rw [show eqF a (Fr.mk 0 0 0 0) = false from decide_eq_false h0, cond_false]
            rw [leaf_eq]
            exact says_eq (q := [Fr.zero, Fr.zero, Fr.zero, Fr.zero, Fr.zero, ⟨1, 0, 0, 0⟩, Fr.zero, Fr.zero]) (want := eqF a (Fr.mk (1 : UInt64) 0 0 0)) rfl sc5 ha hb hc hc (by
              rw [gval_5]
              refine eqF_of_iff ((sub_zero_iff (sc_mul _ _) ha).trans ((sq_iff ha).trans ⟨fun h => h.resolve_left h0, .inr⟩)))
      · rw [show eqI (wr ((2 : Int) + ((2 : Nat) : Int))) 2 = false from rfl, cond_false, show eqI (wr ((2 : Int) + ((2 : Nat) : Int))) 3 = false from rfl, cond_false, show eqI (wr ((2 : Int) + ((2 : Nat) : Int))) 4 = true from rfl, cond_true, mulR (by omega) ha]
        simp only [bsm]
        rw [mulR (by omega) (sc_mul _ _)]
        simp only [bsm]
        rw [mulR (by omega) ha]
        simp only [bsm]
        rw [r108_2]
        cases fit with
        | true =>
          rw [cond_true]
          rw [leaf_eq]
          exact says_eq (q := [Fr.zero, Fr.zero, Fr.zero, Fr.zero, Fr.zero, Fr.zero, ⟨1, 0, 0, 0⟩, Fr.zero]) (c := fmul (fmul (fmul a a) (fmul a a)) a) (nx := fmul (fmul (fmul a a) (fmul a a)) a) (want := eqF (fmul (fmul (fmul a a) (fmul a a)) a) (fmul (fmul (fmul a a) (fmul a a)) a)) rfl sc6 ha hb (sc_mul _ _) (sc_mul _ _) (by
            rw [gval_6, (sub_zero_iff (sc_mul _ _) (sc_mul _ _)).2 rfl, eqF_self, eqF_self])
        | false =>
          rw [cond_false]
          rw [leaf_eq]
          exact says_eq (q := [Fr.zero, Fr.zero, Fr.zero, Fr.zero, Fr.zero, Fr.zero, ⟨1, 0, 0, 0⟩, Fr.zero]) (want := eqF c (fmul (fmul (fmul a a) (fmul a a)) a)) rfl sc6 ha hb hc hc (by
            rw [gval_6]
            exact eqF_of_iff ((sub_zero_iff (sc_mul _ _) hc).trans eq_comm))
      · rw [show eqI (wr ((2 : Int) + ((3 : Nat) : Int))) 2 = false from rfl, cond_false, show eqI (wr ((2 : Int) + ((3 : Nat) : Int))) 3 = false from rfl, cond_false, show eqI (wr ((2 : Int) + ((3 : Nat) : Int))) 4 = false from rfl, cond_false, addR (by omega) ha hb]
        simp only [bsm]
        rw [r108_3]
        cases fit with
        | true =>
          rw [cond_true]
          rw [leaf_eq]
          exact says_eq (q := [Fr.zero, Fr.zero, Fr.zero, Fr.zero, Fr.zero, Fr.zero, Fr.zero, ⟨1, 0, 0, 0⟩]) (c := fadd a b) (nx := fadd a b) (want := eqF (fadd a b) (fadd a b)) rfl sc7 ha hb (sc_add _ _) (sc_add _ _) (by
            rw [gval_7, (sub_zero_iff (sc_add _ _) (sc_add _ _)).2 rfl, eqF_self, eqF_self])
        | false =>
          rw [cond_false]
          rw [leaf_eq]
          exact says_eq (q := [Fr.zero, Fr.zero, Fr.zero, Fr.zero, Fr.zero, Fr.zero, Fr.zero, ⟨1, 0, 0, 0⟩]) (want := eqF c (fadd a b)) rfl sc7 ha hb hc hc (by
            rw [gval_7]
            exact eqF_of_iff ((sub_zero_iff (sc_add _ _) hc).trans eq_comm))
theorem oq109' : OpensQ Try.prog (KQ.any K.fr5) 109 :=
  opensQ_agg (els := pd.els) (l := repCS (elCS .fr) 5) 5 Try.underlying109 rfl (by kernel_rfl) fun y => by
    obtain ⟨l, h1, h2⟩ := flat_rep .fr 5 y
    match l, h1, h2 with
    | [a, b, c, d, e], _, h2 => exact ⟨(⟨a, b, c, d, e⟩ : F5), trivial, Or.inr ⟨.fr, [a, b, c, d, e], rfl, h2⟩⟩
end Go.Proofs.Ytgimohchocjgcaa.V
