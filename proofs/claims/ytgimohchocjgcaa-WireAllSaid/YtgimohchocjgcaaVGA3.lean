import Derived.Test.YtgimohchocjgcaaVGA2
import Derived.KernelRfl
set_option linter.unusedVariables false
set_option linter.unusedSimpArgs false
namespace Go.Proofs.Ytgimohchocjgcaa.V
def Sc (x : Fr) : Prop := fv x < RR
def fmul (x y : Fr) : Fr := frN (fv x * fv y % RR)
theorem sc_mod (n : Nat) : Sc (frN (n % RR)) := by unfold Sc; rw [fv_mod]; exact mod_lt_RR _
theorem sc_mul (x y : Fr) : Sc (fmul x y) := sc_mod _
theorem sc_one : Sc ⟨1, 0, 0, 0⟩ := by unfold Sc; decide +kernel
theorem sc_eq {x y : Fr} (hx : Sc x) (hy : Sc y) (h : Cg (fv x) (fv y)) : x = y := by
  unfold Cg at h
  unfold Sc at hx hy
  rw [Nat.mod_eq_of_lt hx, Nat.mod_eq_of_lt hy] at h
  exact fr_ext h
theorem mulF {N : Nat} (hN : 10 < N) {a b : Fr} (ha : Sc a) : q76 N a b = some (fmul a b, ()) := q76_eq' hN ha
end Go.Proofs.Ytgimohchocjgcaa.V
