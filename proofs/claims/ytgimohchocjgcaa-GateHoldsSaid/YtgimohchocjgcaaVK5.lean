import Derived.Test.YtgimohchocjgcaaVME
set_option linter.unusedVariables false
set_option linter.unusedSimpArgs false
namespace Go.Proofs.Ytgimohchocjgcaa.V
structure F5 where
  (k0 k1 k2 k3 k4 : Fr)
def F5.l (x : F5) : List Fr := [x.k0, x.k1, x.k2, x.k3, x.k4]
def F5.of? (l : List Fr) : Option F5 := match l with
  | [a, b, c, d, e] => some ⟨a, b, c, d, e⟩
  | _ => none
theorem F5.of_ok {l : List Fr} {x : F5} (h : F5.of? l = some x) : l = x.l := by
  unfold F5.of? at h
  split at h
  · cases h; rfl
  · cases h
def K.fr5 : K := ⟨F5, fun x => .vec .fr x.l, fun u => match u with | .vec f l => (castL f .fr l).bind F5.of? | _ => none, fun u x h => by
  split at h
  · rename_i f l
    obtain ⟨m, h1, h2⟩ := Option.bind_eq_some_iff.1 h
    obtain ⟨p, q⟩ := castL_eq h1
    subst p; subst q
    rw [F5.of_ok h2]
  · cases h⟩
end Go.Proofs.Ytgimohchocjgcaa.V
