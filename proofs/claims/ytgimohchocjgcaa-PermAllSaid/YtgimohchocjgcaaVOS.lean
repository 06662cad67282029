import Derived.Test.YtgimohchocjgcaaVOR
set_option linter.unusedVariables false
set_option linter.unusedSimpArgs false
namespace Go.Proofs.Ytgimohchocjgcaa.V
theorem ro_len {w : World} {ok : Nat → Prop} {e : El} {l : List e.T} {v : Value} (h : Holds w ok (.ro e l) v) : l.length < 9223372036854775808 := by
  cases h with
  | sc h => cases h
  | ro f h1 h2 h3 h4 h5 =>
    have : maxLen = 9223372036854775807 := rfl
    omega
  | emp => simp
theorem opensQ_more {P : Program} {a : KQ} {t : TypeId} (h : OpensQ P a t) (q : a.k.T → Prop) (hq : ∀ (W : World) (ok : Nat → Prop) (x : a.k.T) (v : Value), HoldsU W ok (a.k.enc x) v → a.q x → q x) : OpensQ P ⟨a.k, q⟩ t := fun H enc W base v d p hv ht => by
  obtain ⟨x, hx1, hx2⟩ := h H enc W base v d p hv ht
  exact ⟨x, hq _ _ _ _ hx2 hx1, hx2⟩
def KQ.ro (e : El) : KQ := ⟨K.ro e, fun l => (show List e.T from l).length < 9223372036854775808⟩
def KQ.ro3 : KQ := ⟨K.agg [.ro .fr, .ro .fr, .ro .fr] rfl, fun x => (show List Fr from x.1).length < 9223372036854775808 ∧ (show List Fr from x.2.1).length < 9223372036854775808 ∧ (show List Fr from x.2.2.1).length < 9223372036854775808⟩
theorem opensQ_ro3 {P : Program} {t : TypeId} (h : OpensQ P (KQ.any (K.agg [.ro .fr, .ro .fr, .ro .fr] rfl)) t) : OpensQ P KQ.ro3 t :=
  opensQ_more h _ fun W ok x v hx _ => by
    obtain ⟨vs, rfl, hx⟩ := hx
    have hx' : HoldsL W ok [.ro .fr x.1, .ro .fr x.2.1, .ro .fr x.2.2.1] vs.toList := hx
    match hvs : vs.toList, hx' with
    | [a, b, c], h => exact ⟨ro_len h.1, ro_len h.2.1, ro_len h.2.2.1⟩
theorem oq70' : OpensQ Try.prog KQ.ro3 70 := opensQ_ro3 oq70
end Go.Proofs.Ytgimohchocjgcaa.V
