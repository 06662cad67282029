import Derived.Test.YtgimohchocjgcaaVLK2
import Derived.Test.YtgimohchocjgcaaVLV
set_option linter.unusedVariables false
set_option linter.unusedSimpArgs false
namespace Go.Proofs.Ytgimohchocjgcaa.V
theorem bs {α β : Type} {a : α} {f : α → Option β} : Option.bind (some a) f = f a := by rw [Option.bind_some]
theorem mt {R : Type} {x : Option R} : must true x = x := rfl
theorem limb_back_plain (a : List UInt64) (more : UInt8) : q9 2000 a more = some (true, ()) := by
  unfold q9
  rw [begun1]
  simp only [bs]
  rw [Bool.not_true, cond_false]
  by_cases hl : 20 < a.length
  · rw [show ltI (20 : Int) (a.length : Int) = true from ltI_true (by omega), cond_true]
  rw [show ltI (20 : Int) (a.length : Int) = false from ltI_false (by omega), cond_false]
  have hm : (more % 4).toNat < 4 := by
    rw [UInt8.toNat_mod]
    exact Nat.mod_lt _ (by decide)
  rw [Int.toNat_natCast]
  generalize (more % 4).toNat = k at hm
  rw [show leN ((0 + a.length) * 8) 140737488355328 = true from leN_true (by omega), mt, show leN ((a.length + k) * 8) 140737488355328 = true from leN_true (by omega), mt]
  obtain ⟨out, x, h1, h2, h3, h4⟩ := put_take (a := a) (by omega)
  rw [show q57 2000 a 192 = some (out, 0, ()) from h1]
  simp only [bs]
  rw [h2]
  simp only [bs]
  have hxl : x.length ≤ 20 := by
    have := cutL_len a
    have e : cutL x = cutL a := cutL_eq (by rw [h4])
    rw [show cutL x = x from h3] at e
    rw [e]; omega
  have hlong : lv (a ++ List.replicate k 0) = lv a := lv_zeros_append a k
  have hll : (a ++ List.replicate k (0 : UInt64)).length ≤ 24 := by simp; omega
  have c0 : cmpN (lv a) (lv a) = 0 := by simp [cmpN]
  obtain ⟨s, s1, s2, s3⟩ := q62_eq (N := 2000) (a := a ++ List.replicate k (0 : UInt64)) (b := []) (by omega) (by simp) (by rw [List.length_nil]; omega)
  have hs : s = x := by
    have e : cutL s = cutL x := cutL_eq (by rw [s3, h4, hlong]; simp [lv])
    rw [show cutL s = s from s2, show cutL x = x from h3] at e
    exact e
  have hsame : q54 2000 s x = some (true, ()) := by
    rw [q54_eq (N := 2000) (by rw [hs]; omega) (by rw [hs]; omega), decide_eq_true hs]
  rw [eqI_true rfl, cond_true, q61_eq (N := 2000) (by omega) (by omega) (by omega), h4, c0]
  simp only [bs]
  rw [eqI_true rfl, cond_true, q61_eq (N := 2000) (by omega) (by omega) (by omega), hlong, c0]
  simp only [bs]
  rw [eqI_true rfl, cond_true, s1]
  simp only [bs]
  rw [hsame]
  simp only [bs]
  by_cases hx : x.length = 0
  · rw [show eqI (x.length : Int) 0 = true from eqI_true (by omega), cond_true]
  · rw [show eqI (x.length : Int) 0 = false from eqI_false (by omega), cond_false]
    obtain ⟨m, hm2⟩ : ∃ m, x.length = m + 1 := ⟨x.length - 1, by omega⟩
    have hne := Nrm_last h3 (by omega)
    rw [hm2, show m + 1 - 1 = m by omega] at hne
    rw [hm2, show wr (((m + 1 : Nat) : Int) - 1) = (m : Int) from wr_sub1 (by omega), show leI 0 (m : Int) = true from leI_zero _, show ltI (m : Int) ((m + 1 : Nat) : Int) = true from ltI_true (by omega), Bool.and_self, mt, Int.toNat_natCast]
    have hb : (x.getD m 0 == 0) = false := by
      rw [beq_eq_false_iff_ne]
      exact hne
    rw [hb, Bool.not_false, cond_true]
end Go.Proofs.Ytgimohchocjgcaa.V
