import Derived.Test.YtgimohchocjgcaaVRW
import Derived.Test.YtgimohchocjgcaaVTJ3
import Derived.Test.YtgimohchocjgcaaVOS
set_option linter.unusedVariables false
set_option linter.unusedSimpArgs false
namespace Go.Proofs.Ytgimohchocjgcaa.V.talkAll
open Go.ChangeShapes Go.WideShapes Go.ChangeAt Go.RowKit
set_option maxRecDepth 100000 in
theorem runs (N : Nat) (x : TKs ([KQ.any K.str, KQ.any K.rt].map KQ.k)) : runFn pd (fun f => look f (env26 N)) Try.f26 (decUs [K.bool]) (mkLp pd (fun f => look f (env26 N)) (finish pd Try.f26 (decUs [K.bool])) N tab26 4) (encKs ([KQ.any K.str, KQ.any K.rt].map KQ.k) x) = p26 N x.1 x.2.1 := by kernel_rfl
set_option maxRecDepth 100000 in
theorem lifted (os : Os) (started : os.Started) (H : Type) (enc : TypeId × Value → H) :
    ReturnsInHanded {} Try.checked os 26 .any (Rows.talkAllSpec.pre6 enc Try.prog Try.f26 Rows.talkAllRow.domain false) (Rows.talkAllSpec.post enc Try.prog Try.f26 false true false false) := by
  refine returnsInHanded_of_change (C := Try.checked) own started (by kernel_rfl) Try.func26
    (ChangeSpec.witness6 (enc := enc) (C := Try.checked) false ⟨#[], #[.string ⟨#[]⟩, .slice none 0 0], []⟩ 8 (by kernel_rfl) (by kernel_rfl) (by kernel_rfl) (by kernel_rfl)) ?_
  intro W base args ds gs before hval hW hcnd _
  have hW' := hW
  obtain ⟨p, q, hA, hV, _⟩ := hW'
  have hp : Try.f26.params.toList = [9, 96] := rfl
  have hlen := trodAll_len hA
  rw [hp] at hlen
  have hA' : DataW.TrodAll enc Try.prog W 0 (fun _ => true) true Try.f26.params.toList args.toList ds p := hA
  obtain ⟨x, hq, hx⟩ := opens_argsQ (base := base) (ks := [KQ.any K.str, KQ.any K.rt]) (ts := Try.f26.params.toList) ⟨oq9, oq96, trivial⟩ hA' (fun j t v hj hw => hval j t v (by rw [← Array.getElem?_toList]; exact hj) (by rw [← Array.getElem?_toList]; exact hw))
  obtain ⟨d0, d1, rfl⟩ : ∃ d0 d1, ds = [d0, d1] := by
    match ds, hlen with
    | [d0, d1], _ => exact ⟨_, _, rfl⟩
  have hcall := sgK_calls1 pd_ok (env_look (env26_ok 2000)) Try.func26 (name_ne (by kernel_rfl)) ([KQ.any K.str, KQ.any K.rt].map KQ.k) (fun x => p26 2000 x.1 x.2.1) 2000 tab26 4 (runs 2000)
    x (by rw [p26_t]; exact talkAll_plain _ _) W args.toList (fun b => b < W.heap.size) (fun _ h => h) hx
  rw [Array.toArray_toList] at hcall
  refine hcall.mono fun e W' ⟨he, hk⟩ => ⟨.bool true, he, ?_⟩
  exact law_post laid (by decide +kernel) rfl (tb := 4) rfl Try.underlying4 rfl hW hk
theorem named : Try.pinned.checked.prog.funcNamed Rows.talkAllRow.func = some 26 := by kernel_rfl
theorem c3 : (Try.f26.params.all fun x => Try.pinned.checked.prog.readableRec x) = true := by kernel_rfl
theorem c9 : (Rows.talkAllRow.inPlace == Try.pinned.checked.prog.inPlace 26) = true := by kernel_rfl
theorem c10 : (Rows.talkAllRow.unfollowed == Try.pinned.checked.prog.unfollowed 26) = true := by kernel_rfl
theorem c11 : (Rows.talkAllRow.recurses == Try.pinned.checked.prog.recurses 26) = true := by kernel_rfl
theorem c12 : (Rows.talkAllRow.named == Try.pinned.checked.prog.varsNamed 26) = true := by kernel_rfl
theorem c26 : (Rows.talkAllRow.lifted == Try.pinned.checked.prog.liftsFinal) = true := by
  have h : Try.pinned.checked.prog.liftsFinal = false := lifts_final
  rw [h]; rfl
theorem c27 : (Try.pinned.checked.prog.make == some Rows.talkAllRow.make) = true := by
  have h : Try.pinned.checked.prog.make = some .cut := make_is
  rw [h]; rfl
set_option maxRecDepth 100000 in
theorem closed : joinedFacts Try.pinned.checked.prog 26 Try.f26 Rows.talkAllSpec Rows.talkAllRow = true := by
  unfold joinedFacts
  repeat' (with_reducible apply both)
  all_goals first
    | with_reducible exact laid
    | with_reducible exact rowed
    | with_reducible exact c3
    | with_reducible exact c9
    | with_reducible exact c10
    | with_reducible exact c11
    | with_reducible exact c12
    | with_reducible exact may_enter'
    | with_reducible exact c26
    | with_reducible exact c27
    | with_reducible exact heard
    | (as_aux_lemma => kernel_rfl)
theorem inst : Try.f26.isInstance Try.pinned.checked.prog Rows.talkAllRow.origin Rows.talkAllRow.targs := (of_decide_eq_true (by kernel_rfl))
theorem wrapper : Try.f26.isWrapper Try.pinned.checked.prog Rows.talkAllRow.wrapper Rows.talkAllRow.mainSum := by
  unfold Func.isWrapper
  first | (rw [if_pos (by decide +kernel)]; kernel_rfl) | (rw [if_neg (by decide +kernel)]; exact ⟨rfl, rfl⟩)
theorem over : Rows.talkAllRow.holds Try.pinned (OpenSpec.ofChange Rows.talkAllSpec) :=
  OpenClaim.holds_of_wide 26 Try.f26 rfl rfl rfl rfl rfl rfl rfl ⟨rfl, rfl, rfl, rfl, rfl⟩ rfl rfl rfl rfl rfl named Try.func26 closed inst wrapper
    (fun os started H enc _ => lifted os started H enc)
end Go.Proofs.Ytgimohchocjgcaa.V.talkAll
namespace Go.Proofs.Ytgimohchocjgcaa
theorem talkAll_holds : Rows.TalkAllSaid := V.talkAll.over
#print axioms talkAll_holds
end Go.Proofs.Ytgimohchocjgcaa
