import Derived.Test.YtgimohchocjgcaaVFS
import Derived.KernelRfl
set_option linter.unusedVariables false
set_option linter.unusedSimpArgs false
namespace Go.Proofs.Ytgimohchocjgcaa.V
theorem fv_zero : fv ⟨0, 0, 0, 0⟩ = 0 := by decide
theorem fv_small (n : UInt64) : fv ⟨n, 0, 0, 0⟩ = n.toNat := by simp [fv, Fr.l, lv]
theorem q69_eq {N : Nat} (hN : 10 < N) (a : Fr) : q69 N a = some (decide (fv a < RR), ()) := by
  have hq : q69 N a = Option.bind (q168 N a.l mL) fun r1 => some ((Prod.fst r1, ())) := rfl
  rw [hq, q168_eq (N := N) (a := a.l) (m := mL) (by decide) rfl (by show 4 < N; omega), lv_mL]
  rfl
def Cg (a b : Nat) : Prop := a % RR = b % RR
theorem Cg.symm {a b : Nat} (h : Cg a b) : Cg b a := Eq.symm h
theorem Cg.trans {a b c : Nat} (h : Cg a b) (g : Cg b c) : Cg a c := Eq.trans h g
theorem Cg.mul {a b c d : Nat} (h1 : Cg a b) (h2 : Cg c d) : Cg (a * c) (b * d) := by
  unfold Cg at *
  rw [Nat.mul_mod, h1, h2, ← Nat.mul_mod]
theorem Cg.add {a b c d : Nat} (h1 : Cg a b) (h2 : Cg c d) : Cg (a + c) (b + d) := by
  unfold Cg at *
  rw [Nat.add_mod, h1, h2, ← Nat.add_mod]
theorem Cg.lt {a b : Nat} (h : Cg a b) (ha : a < RR) : a = b % RR := by
  unfold Cg at h
  rw [← h, Nat.mod_eq_of_lt ha]
end Go.Proofs.Ytgimohchocjgcaa.V
