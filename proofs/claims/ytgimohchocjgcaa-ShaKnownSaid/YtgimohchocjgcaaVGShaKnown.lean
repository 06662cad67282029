import Derived.Test.YtgimohchocjgcaaVRW
import Derived.Test.YtgimohchocjgcaaVSK2
import Derived.Test.YtgimohchocjgcaaVOS
set_option linter.unusedVariables false
set_option linter.unusedSimpArgs false
namespace Go.Proofs.Ytgimohchocjgcaa.V.shaKnown
open Go.ChangeShapes Go.WideShapes Go.ChangeAt Go.RowKit
set_option maxRecDepth 100000 in
theorem runs (N : Nat) (x : TKs ([].map KQ.k)) : runFn pd (fun f => look f (env3 N)) Try.f3 (decUs [K.bool]) (mkLp pd (fun f => look f (env3 N)) (finish pd Try.f3 (decUs [K.bool])) N tab3 4) (encKs ([].map KQ.k) x) = p3 N  := by kernel_rfl
set_option maxRecDepth 100000 in
theorem lifted (os : Os) (started : os.Started) (H : Type) (enc : TypeId × Value → H) :
    ReturnsInHanded {} Try.checked os 3 .any (Rows.shaKnownSpec.pre6 enc Try.prog Try.f3 Rows.shaKnownRow.domain false) (Rows.shaKnownSpec.post enc Try.prog Try.f3 false true false false) := by
  refine returnsInHanded_of_change (C := Try.checked) own started (by kernel_rfl) Try.func3
    (ChangeSpec.witness6 (enc := enc) (C := Try.checked) false ⟨#[], #[], []⟩ 8 (by kernel_rfl) (by kernel_rfl) (by kernel_rfl) (by kernel_rfl)) ?_
  intro W base args ds gs before hval hW hcnd _
  have hW' := hW
  obtain ⟨p, q, hA, hV, _⟩ := hW'
  have hp : Try.f3.params.toList = [] := rfl
  have hlen := trodAll_len hA
  rw [hp] at hlen
  have hA' : DataW.TrodAll enc Try.prog W 0 (fun _ => true) true Try.f3.params.toList args.toList ds p := hA
  obtain ⟨x, hq, hx⟩ := opens_argsQ (base := base) (ks := []) (ts := Try.f3.params.toList) trivial hA' (fun j t v hj hw => hval j t v (by rw [← Array.getElem?_toList]; exact hj) (by rw [← Array.getElem?_toList]; exact hw))
  have hds : ds = [] := by
    match ds, hlen with
    | [], _ => rfl
  subst hds
  have hcall := sgK_calls1 pd_ok (env_look (env3_ok 2000)) Try.func3 (name_ne (by kernel_rfl)) ([].map KQ.k) (fun x => p3 2000 ) 2000 tab3 4 (runs 2000)
    x (by rw [p3_t]; exact sha_known) W args.toList (fun b => b < W.heap.size) (fun _ h => h) hx
  rw [Array.toArray_toList] at hcall
  refine hcall.mono fun e W' ⟨he, hk⟩ => ⟨.bool true, he, ?_⟩
  exact law_post laid (by decide +kernel) rfl (tb := 4) rfl Try.underlying4 rfl hW hk
theorem named : Try.pinned.checked.prog.funcNamed Rows.shaKnownRow.func = some 3 := by kernel_rfl
theorem c3 : (Try.f3.params.all fun x => Try.pinned.checked.prog.readableRec x) = true := by kernel_rfl
theorem c9 : (Rows.shaKnownRow.inPlace == Try.pinned.checked.prog.inPlace 3) = true := by kernel_rfl
theorem c10 : (Rows.shaKnownRow.unfollowed == Try.pinned.checked.prog.unfollowed 3) = true := by kernel_rfl
theorem c11 : (Rows.shaKnownRow.recurses == Try.pinned.checked.prog.recurses 3) = true := by kernel_rfl
theorem c12 : (Rows.shaKnownRow.named == Try.pinned.checked.prog.varsNamed 3) = true := by kernel_rfl
theorem c26 : (Rows.shaKnownRow.lifted == Try.pinned.checked.prog.liftsFinal) = true := by
  have h : Try.pinned.checked.prog.liftsFinal = false := lifts_final
  rw [h]; rfl
theorem c27 : (Try.pinned.checked.prog.make == some Rows.shaKnownRow.make) = true := by
  have h : Try.pinned.checked.prog.make = some .cut := make_is
  rw [h]; rfl
set_option maxRecDepth 100000 in
theorem closed : joinedFacts Try.pinned.checked.prog 3 Try.f3 Rows.shaKnownSpec Rows.shaKnownRow = true := by
  unfold joinedFacts
  repeat' (with_reducible apply both)
  all_goals first
    | with_reducible exact laid
    | with_reducible exact rowed
    | with_reducible exact c3
    | with_reducible exact c9
    | with_reducible exact c10
    | with_reducible exact c11
    | with_reducible exact c12
    | with_reducible exact may_enter'
    | with_reducible exact c26
    | with_reducible exact c27
    | with_reducible exact heard
    | (as_aux_lemma => kernel_rfl)
theorem inst : Try.f3.isInstance Try.pinned.checked.prog Rows.shaKnownRow.origin Rows.shaKnownRow.targs := (of_decide_eq_true (by kernel_rfl))
theorem wrapper : Try.f3.isWrapper Try.pinned.checked.prog Rows.shaKnownRow.wrapper Rows.shaKnownRow.mainSum := by
  unfold Func.isWrapper
  first | (rw [if_pos (by decide +kernel)]; kernel_rfl) | (rw [if_neg (by decide +kernel)]; exact ⟨rfl, rfl⟩)
theorem over : Rows.shaKnownRow.holds Try.pinned (OpenSpec.ofChange Rows.shaKnownSpec) :=
  OpenClaim.holds_of_wide 3 Try.f3 rfl rfl rfl rfl rfl rfl rfl ⟨rfl, rfl, rfl, rfl, rfl⟩ rfl rfl rfl rfl rfl named Try.func3 closed inst wrapper
    (fun os started H enc _ => lifted os started H enc)
end Go.Proofs.Ytgimohchocjgcaa.V.shaKnown
namespace Go.Proofs.Ytgimohchocjgcaa
theorem shaKnown_holds : Rows.ShaKnownSaid := V.shaKnown.over
#print axioms shaKnown_holds
end Go.Proofs.Ytgimohchocjgcaa
